/- The plain law of LexPlain: a name is written as it is just when its bytes are plain; to read a name makes none longer. -/
import Derived.Test.YtaolcbklpdodaaaDoorPq
import Derived.Test.YtaolcbklpdodaaaDoorQ8
import Derived.Test.YtaolcbklpdodaaaDoorAw3
namespace Go.Proofs.YtaolcbklpdodaaaDoor.M
open Go.RowKit Go.Proofs.YtaolcbklpdodaaaDoorW.PrintWords
set_option linter.unusedVariables false
def plB (c : UInt8) : Bool := isPlainB c.toNat
theorem writeBytes_plain : ∀ l : List UInt8, l.all plB = true → writeBytes l = l
  | [], _ => rfl
  | c :: l, h => by
    simp only [List.all_cons, Bool.and_eq_true] at h
    have e : writeOf c = [c] := by unfold writeOf; rw [if_pos (show isPlainB c.toNat = true from h.1)]
    have ih := writeBytes_plain l h.2
    simp only [writeBytes] at ih ⊢
    rw [List.flatMap_cons, e, ih]; rfl
theorem writeBytes_more : ∀ l : List UInt8, l.all plB = false → l.length < (writeBytes l).length
  | [], h => by simp at h
  | c :: l, h => by
    have ih := writeBytes_more l
    have hl := (writeBytes_length l).1
    have ho := (writeOf_length c).1
    simp only [writeBytes] at ih hl ⊢
    rw [List.flatMap_cons, List.length_append, List.length_cons]
    rw [List.all_cons, Bool.and_eq_false_iff] at h
    rcases h with h | h
    · have e : writeOf c = 35 :: hexOf c.toNat := by unfold writeOf; rw [if_neg (by unfold plB at h; rw [h]; decide)]
      rw [e]
      simp only [List.length_cons, hexOf, List.length_nil]
      omega
    · have := ih h; omega
theorem nameGo_same : ∀ l : List UInt8, l.all plB = true → nameGo l = l
  | [], _ => rfl
  | c :: l, h => by
    simp only [List.all_cons, Bool.and_eq_true] at h
    have hc : (c == 35) = false := by
      rw [beq_eq_false_iff_ne]
      rintro rfl
      exact absurd h.1 (by decide)
    rw [nameGo_plain c l hc, nameGo_same l h.2]
theorem nameGo_len : ∀ l : List UInt8, (nameGo l).length ≤ l.length
  | [] => by simp [nameGo]
  | [c] => by simp [nameGo]
  | [c, a] => by simp [nameGo]
  | c :: a :: b :: r => by
    have h1 := nameGo_len r
    have h2 := nameGo_len (a :: b :: r)
    rw [nameGo]
    split
    · simp only [List.length_cons]; omega
    · simp only [List.length_cons] at h2 ⊢; omega
theorem plain_loop (a0 : ByteArray) (ht : a0.size < 4611686018427387904) (d : Nat) : ∀ (i k : Nat) (p : Bool), a0.size - i = d → i ≤ a0.size → d + 4 ≤ k →
    hornbooklaw03_LexPlain.l0 k a0 true p i = hornbooklaw03_LexPlain.l0 1 a0 true (p && (a0.data.toList.drop i).all plB) a0.size := by
  induction d with
  | zero =>
    intro i k p hd hi hk
    obtain ⟨k, rfl⟩ : ∃ m, k = m + 1 := ⟨k - 1, by omega⟩
    have : i = a0.size := by omega
    subst this
    rw [List.drop_of_length_le (by rw [← size_list]; omega), List.all_nil, Bool.and_true]
    simp only [hornbooklaw03_LexPlain.l0]
    have hn : ¬ (a0.size : Int) < a0.size := by omega
    rw [if_neg hn, if_neg hn]
  | succ d ih =>
    intro i k p hd hi hk
    obtain ⟨k, rfl⟩ : ∃ m, k = m + 1 := ⟨k - 1, by omega⟩
    have hlt : i < a0.size := by omega
    have hl : i < a0.data.toList.length := by rw [← size_list]; exact hlt
    have hb := bt_get a0 i hlt
    rw [List.drop_eq_getElem_cons hl, List.all_cons, ← Bool.and_assoc]
    rw [hornbooklaw03_LexPlain.l0, if_pos (by omega), wrap_small (by omega) (by omega), show ((i : Int) + 1) = ((i + 1 : Nat) : Int) by omega]
    have step := fun q => ih (i + 1) k q (by omega) (by omega) (by omega)
    cases p with
    | false => rw [if_neg (by decide), step, Bool.false_and, Bool.false_and, Bool.false_and]
    | true =>
      rw [if_pos rfl, if_pos (by omega), cls_get a0 i hlt (by omega), hb, Bool.true_and]
      simp only [Option.bind_some]
      generalize a0.data.toList[i] = c
      have key : plB c = (clsOf c.toNat == 0 && (c.toNat : Int) != 35 && decide (33 ≤ (c.toNat : Int)) && decide ((c.toNat : Int) ≤ 126)) := rfl
      by_cases h1 : (c.toNat : Int) > 32
      · rw [if_pos h1]
        by_cases h2 : (c.toNat : Int) < 127
        · rw [if_pos h2]
          by_cases h3 : (c.toNat : Int) = 35
          · have : plB c = false := by rw [key, h3]; simp
            rw [if_pos h3, step, this]
          · have : plB c = (clsOf c.toNat == 0) := by
              rw [key, decide_eq_true (show 33 ≤ (c.toNat : Int) by omega), decide_eq_true (show (c.toNat : Int) ≤ 126 by omega), bne_iff_ne.2 h3]; simp
            rw [if_neg h3, step, this]
        · have : plB c = false := by rw [key, decide_eq_false (show ¬ (c.toNat : Int) ≤ 126 by omega)]; simp
          rw [if_neg h2, step, this]
      · have : plB c = false := by rw [key, decide_eq_false (show ¬ 33 ≤ (c.toNat : Int) by omega)]; simp
        rw [if_neg h1, step, this]
theorem LexPlain : hornbooklaw03_LexPlain.Pure := by
  intro a0 h0
  obtain ⟨k, hk⟩ : ∃ k : Nat, 4000 ≤ k := ⟨4000, Nat.le_refl _⟩
  refine ⟨k, ?_⟩
  unfold hornbooklaw03_LexPlain.f
  rw [awake3 (by omega)]
  simp only [Option.bind_some]
  by_cases hs : (a0.size : Int) > 300
  · rw [if_pos hs]
  · rw [if_neg hs, show (0 : Int) = ((0 : Nat) : Int) by rfl, plain_loop a0 (by omega) _ 0 k true rfl (by omega) (by omega), List.drop_zero, Bool.true_and]
    have hn : lex_Name.f a0 = some ⟨(nameGo a0.data.toList).toArray⟩ := by
      unfold lex_Name.f
      rw [if_pos (by omega)]
    have hw : lex_Write.f a0 = some ⟨(writeBytes a0.data.toList).toArray⟩ := by unfold lex_Write.f; rw [if_pos (by omega)]
    have l1 := nameGo_len a0.data.toList
    have l2 := nameGo_len (nameGo a0.data.toList)
    have s1 := ba_size (nameGo a0.data.toList)
    rw [← size_list] at l1
    have hn2 : lex_Name.f ⟨(nameGo a0.data.toList).toArray⟩ = some ⟨(nameGo (nameGo a0.data.toList)).toArray⟩ := by
      unfold lex_Name.f
      rw [if_pos (by omega), ba_list]
    have s2 := ba_size (nameGo (nameGo a0.data.toList))
    simp only [hornbooklaw03_LexPlain.l0]
    rw [if_neg (by omega), hn, hw]
    simp only [Option.bind_some, if_true]
    rw [hn2, s1]
    simp only [Option.bind_some]
    rw [s2, if_pos (show ((nameGo a0.data.toList).length : Int) ≤ a0.size by omega), decide_eq_true (show ((nameGo (nameGo a0.data.toList)).length : Int) ≤ ((nameGo a0.data.toList).length : Int) by omega), ba_toList, ba_toList, toList_data]
    cases hp : a0.data.toList.all plB with
    | true => rw [writeBytes_plain _ hp, nameGo_same _ hp]; simp
    | false =>
      have hm := writeBytes_more _ hp
      rw [if_neg (fun e => absurd (congrArg List.length e) (Nat.ne_of_gt hm))]
      simp
end Go.Proofs.YtaolcbklpdodaaaDoor.M
