/- The plain law of LexWords: a word has regular bytes alone, and what stands behind it is none; one that is cut in two is two. -/
import Derived.Test.YtaolcbklpdodaaaDoorPq
import Derived.Test.YtaolcbklpdodaaaDoorQ6
import Derived.Test.YtaolcbklpdodaaaDoorAw3
namespace Go.Proofs.YtaolcbklpdodaaaDoor.M
open Go.RowKit Go.Proofs.YtaolcbklpdodaaaDoorW.PrintWords
set_option linter.unusedVariables false
theorem takeWhile_reg (l : List UInt8) : ∀ c ∈ l.takeWhile isRegB, isRegB c = true := by
  induction l with
  | nil => intro c h; simp at h
  | cons x l ih =>
    intro c h
    rw [List.takeWhile_cons] at h
    split at h
    · rename_i hx
      rcases List.mem_cons.1 h with rfl | h
      · exact hx
      · exact ih c h
    · simp at h
theorem takeWhile_next : ∀ (l : List UInt8) (h : (l.takeWhile isRegB).length < l.length), isRegB (l[(l.takeWhile isRegB).length]'h) = false
  | [], h => by simp at h
  | x :: l, h => by
    cases hx : isRegB x with
    | true =>
      have e : (x :: l).takeWhile isRegB = x :: l.takeWhile isRegB := by rw [List.takeWhile_cons, if_pos hx]
      have hl : (l.takeWhile isRegB).length < l.length := by rw [e] at h; simpa using h
      have := takeWhile_next l hl
      simp only [e, List.length_cons, List.getElem_cons_succ]
      exact this
    | false =>
      have e : (x :: l).takeWhile isRegB = [] := by rw [List.takeWhile_cons, if_neg (by simp [hx])]
      simp only [e, List.length_nil, List.getElem_cons_zero]
      exact hx
theorem takeWhile_drop : ∀ (l : List UInt8) (j : Nat), j ≤ (l.takeWhile isRegB).length → (l.drop j).takeWhile isRegB = (l.takeWhile isRegB).drop j
  | l, 0, _ => by simp
  | [], j + 1, h => by simp
  | x :: l, j + 1, h => by
    cases hx : isRegB x with
    | true =>
      have e : (x :: l).takeWhile isRegB = x :: l.takeWhile isRegB := by rw [List.takeWhile_cons, if_pos hx]
      rw [e] at h ⊢
      simp only [List.drop_succ_cons]
      exact takeWhile_drop l j (by simpa using h)
    | false =>
      have e : (x :: l).takeWhile isRegB = [] := by rw [List.takeWhile_cons, if_neg (by simp [hx])]
      rw [e] at h
      simp at h
theorem wordAt_next (s : ByteArray) (i : Nat) (hi : i ≤ s.size) (h : i + (wordAt s.data.toList i).length < s.size) : isRegB (s.data.toList[i + (wordAt s.data.toList i).length]'(by rw [← size_list]; exact h)) = false := by
  have hl : ((s.data.toList.drop i).takeWhile isRegB).length < (s.data.toList.drop i).length := by
    rw [List.length_drop, ← size_list]; unfold wordAt at h; omega
  have := takeWhile_next (s.data.toList.drop i) hl
  rw [List.getElem_drop] at this
  exact this
theorem wordAt_drop (l : List UInt8) (i j : Nat) (h : j ≤ (wordAt l i).length) : wordAt l (i + j) = (wordAt l i).drop j := by
  unfold wordAt at h ⊢
  rw [← takeWhile_drop _ _ h, List.drop_drop]
theorem words_loop (s : ByteArray) (hs : s.size < 4611686018427387904) (i : Nat) (hi : i ≤ s.size) (d : Nat) : ∀ (j k : Nat), (wordAt s.data.toList i).length - j = d → j ≤ (wordAt s.data.toList i).length → d + s.size + 10 ≤ k →
    hornbooklaw03_LexWords.l0 k s true ⟨(wordAt s.data.toList i).toArray⟩ ((i + (wordAt s.data.toList i).length : Nat) : Int) i j = some true := by
  have hle : i + (wordAt s.data.toList i).length ≤ s.size := by rw [size_list]; exact wordAt_le _ _ (by rw [← size_list]; exact hi)
  have hsz := ba_size (wordAt s.data.toList i)
  induction d with
  | zero =>
    intro j k hd hj hk
    obtain ⟨k, rfl⟩ : ∃ m, k = m + 1 := ⟨k - 1, by omega⟩
    simp only [hornbooklaw03_LexWords.l0]
    rw [hsz, if_neg (by omega)]
  | succ d ih =>
    intro j k hd hj hk
    obtain ⟨k, rfl⟩ : ∃ m, k = m + 1 := ⟨k - 1, by omega⟩
    have hlt : j < (wordAt s.data.toList i).length := by omega
    simp only [hornbooklaw03_LexWords.l0]
    rw [hsz, if_pos (by omega), if_pos (by omega), cls_get _ j (by rw [hsz]; exact hlt) (by omega)]
    simp only [Option.bind_some]
    have hreg : isRegB ((⟨(wordAt s.data.toList i).toArray⟩ : ByteArray).data.toList[j]'(by rw [ba_list]; exact hlt)) = true := by
      apply takeWhile_reg (s.data.toList.drop i)
      have hm := List.getElem_mem (l := (⟨(wordAt s.data.toList i).toArray⟩ : ByteArray).data.toList) (n := j) (by rw [ba_list]; exact hlt)
      exact (congrArg (fun m => _ ∈ m) (ba_list (wordAt s.data.toList i))).mp hm
    rw [if_pos (by simpa [isRegB] using hreg), wrap_small (by omega) (by omega), word_eq s hs _ (by omega)]
    have hp : placeN s ((i : Int) + (j : Int)) = i + j := by unfold placeN; omega
    simp only [Option.bind_some]
    rw [hp, wordAt_drop _ _ _ (by omega)]
    have hdl : ((wordAt s.data.toList i).drop j).length = (wordAt s.data.toList i).length - j := List.length_drop
    rw [hdl, if_pos (by omega), if_pos (by omega), Int.toNat_natCast, ← hsz, ext_from, ba_list, if_pos rfl, hsz, wrap_small (by omega) (by omega)]
    rw [show ((j : Int) + 1) = ((j + 1 : Nat) : Int) by omega]
    exact ih (j + 1) k (by omega) (by omega) (by omega)
theorem LexWords : hornbooklaw03_LexWords.Pure := by
  intro a0 a1 h0 h1
  obtain ⟨k, hk⟩ : ∃ k : Nat, 4000 ≤ k := ⟨4000, Nat.le_refl _⟩
  refine ⟨k, ?_⟩
  unfold hornbooklaw03_LexWords.f
  rw [awake3 (by omega)]
  simp only [Option.bind_some]
  by_cases hs : (a0.size : Int) > 500
  · rw [if_pos hs]
  · rw [if_neg hs, word_eq a0 (by omega) a1 (by omega)]
    have hpl := placeN_le a0 a1
    have hmx : mx 0 (mn a1 (a0.size : Int)) = (placeN a0 a1 : Int) := by
      have := place_eq a0 a1
      unfold lex_place.f at this
      exact Option.some.inj this
    have hle : placeN a0 a1 + (wordAt a0.data.toList (placeN a0 a1)).length ≤ a0.size := by
      rw [size_list]; exact wordAt_le _ _ (by rw [← size_list]; exact hpl)
    simp only [Option.bind_some]
    rw [hmx, ba_size, wrap_small (by omega) (by omega), if_pos (by omega), if_neg (by omega), if_pos (by omega), if_pos (by omega), if_pos (by omega)]
    have hx : a0.extract ((placeN a0 a1 : Nat) : Int).toNat ((placeN a0 a1 + (wordAt a0.data.toList (placeN a0 a1)).length : Nat) : Int).toNat = ⟨(wordAt a0.data.toList (placeN a0 a1)).toArray⟩ := by
      rw [Int.toNat_natCast, Int.toNat_natCast, ext_mid, Nat.add_sub_cancel_left]
      unfold wordAt
      rw [← List.prefix_iff_eq_take.1 (List.takeWhile_prefix _)]
    rw [hx, if_pos rfl]
    have fin : hornbooklaw03_LexWords.j0 k a0 true ⟨(wordAt a0.data.toList (placeN a0 a1)).toArray⟩ ((placeN a0 a1 + (wordAt a0.data.toList (placeN a0 a1)).length : Nat) : Int) (placeN a0 a1) false = some true := by
      obtain ⟨k, rfl⟩ : ∃ m, k = m + 1 := ⟨k - 1, by omega⟩
      simp only [hornbooklaw03_LexWords.j0]
      rw [if_neg (by simp)]
      exact words_loop a0 (by omega) _ hpl _ 0 k rfl (by omega) (by omega)
    by_cases hl : placeN a0 a1 + (wordAt a0.data.toList (placeN a0 a1)).length < a0.size
    · have hn := wordAt_next a0 _ hpl hl
      rw [if_pos (by omega), if_pos (by omega), cls_get a0 _ hl (by omega)]
      simp only [Option.bind_some]
      have e : (clsOf (a0.data.toList[placeN a0 a1 + (wordAt a0.data.toList (placeN a0 a1)).length]'(by rw [← size_list]; exact hl)).toNat == 0) = false := hn
      rw [e]
      exact fin
    · rw [if_neg (by omega)]
      exact fin
end Go.Proofs.YtaolcbklpdodaaaDoor.M
