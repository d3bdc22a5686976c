/- The plain law of LexSkips: behind what is skipped there is something, or the end; a remark and its line are skipped. -/
import Derived.Test.YtaolcbklpdodaaaDoorPs
import Derived.Test.YtaolcbklpdodaaaDoorQ4
import Derived.Test.YtaolcbklpdodaaaDoorAw3
namespace Go.Proofs.YtaolcbklpdodaaaDoor.M
open Go.RowKit Go.Proofs.YtaolcbklpdodaaaDoorW.PrintWords
set_option linter.unusedVariables false
theorem skips_loop (s note : ByteArray) (hs : s.size ≤ 500) (hn : note.size ≤ 300) (d : Nat) : ∀ (i k : Nat) (f : List UInt8), note.size - i = d → i ≤ note.size → f.length ≤ i → f.all (fun c => !isNL c) = true → d + 3000 ≤ k →
    hornbooklaw03_LexSkips.l0 k s note true ⟨(32 :: 37 :: f).toArray⟩ i = some true := by
  induction d with
  | zero =>
    intro i k f hd hi hf ha hk
    obtain ⟨k, rfl⟩ : ∃ m, k = m + 1 := ⟨k - 1, by omega⟩
    simp only [hornbooklaw03_LexSkips.l0]
    have e1 : (⟨(32 :: 37 :: f).toArray⟩ ++ (⟨#[10]⟩ : ByteArray) : ByteArray) = ⟨(32 :: 37 :: f ++ [10]).toArray⟩ := by
      rw [ba_eta (_ ++ _)]; simp
    have e2 : (⟨(32 :: 37 :: f ++ [10]).toArray⟩ ++ s : ByteArray) = ⟨(32 :: 37 :: f ++ [10] ++ s.data.toList).toArray⟩ := by
      rw [ba_eta (_ ++ _)]; simp
    have z1 := ba_size (32 :: 37 :: f)
    have z2 := ba_size (32 :: 37 :: f ++ [10])
    have z3 := ba_size (32 :: 37 :: f ++ [10] ++ s.data.toList)
    simp only [List.length_append, List.length_cons, List.length_nil, ← size_list] at z1 z2 z3
    rw [if_neg (by omega), e1, z1, if_pos (by omega), if_pos trivial, z2, if_pos (by omega), e2, skip_eq _ (by omega) _ (by omega), skip_eq s (by omega) _ (by omega)]
    simp only [Option.bind_some]
    have p1 : placeN ⟨(32 :: 37 :: f ++ [10] ++ s.data.toList).toArray⟩ 0 = 0 := by unfold placeN; omega
    have p2 : placeN s 0 = 0 := by unfold placeN; omega
    have hle := skipG_le s.data.toList false
    have e : skipG false (32 :: 37 :: f ++ [10] ++ s.data.toList) = f.length + 3 + skipG false s.data.toList := by
      have := skipG_line f s.data.toList ha
      have e3 : (32 :: 37 :: f ++ [10] ++ s.data.toList) = 32 :: 37 :: (f ++ 10 :: s.data.toList) := by simp
      have hw : clsOf ((32 : UInt8).toNat : Int) = 1 := by decide
      rw [e3, skipG, if_neg (by decide), if_pos (by decide), skipG, if_pos (by decide), this]; omega
    unfold skipN
    rw [p1, p2, List.drop_zero, List.drop_zero, ba_list, e]
    rw [← size_list] at hle
    rw [wrap_small (by omega) (by omega)]
    congr 1
    rw [beq_iff_eq]
    omega
  | succ d ih =>
    intro i k f hd hi hf ha hk
    obtain ⟨k, rfl⟩ : ∃ m, k = m + 1 := ⟨k - 1, by omega⟩
    have hlt : i < note.size := by omega
    have hb := bt_get note i hlt
    simp only [hornbooklaw03_LexSkips.l0]
    rw [if_pos (by omega), if_pos (by omega), hb, wrap_small (by omega) (by omega)]
    rw [show ((i : Int) + 1) = ((i + 1 : Nat) : Int) by omega]
    by_cases h10 : ((note.data.toList[i]'(by rw [← size_list]; exact hlt)).toNat : Int) = 10
    · rw [if_pos h10]; exact ih (i + 1) k f (by omega) (by omega) (by omega) ha (by omega)
    · rw [if_neg h10]
      by_cases h13 : ((note.data.toList[i]'(by rw [← size_list]; exact hlt)).toNat : Int) = 13
      · rw [if_pos h13]; exact ih (i + 1) k f (by omega) (by omega) (by omega) ha (by omega)
      · rw [if_neg h13, if_pos (by omega), if_pos (by omega)]
        have hx : note.extract ((i : Nat) : Int).toNat ((i + 1 : Nat) : Int).toNat = ⟨[note.data.toList[i]'(by rw [← size_list]; exact hlt)].toArray⟩ := by
          rw [Int.toNat_natCast, Int.toNat_natCast, ext_mid, List.drop_eq_getElem_cons (by rw [← size_list]; exact hlt)]
          congr 2
          rw [Nat.add_sub_cancel_left]; rfl
        rw [hx]
        have e1 : (⟨(32 :: 37 :: f).toArray⟩ ++ (⟨[note.data.toList[i]'(by rw [← size_list]; exact hlt)].toArray⟩ : ByteArray) : ByteArray) = ⟨(32 :: 37 :: (f ++ [note.data.toList[i]'(by rw [← size_list]; exact hlt)])).toArray⟩ := by
          rw [ba_eta (_ ++ _)]; simp
        have z1 := ba_size (32 :: 37 :: f)
        have z2 := ba_size [note.data.toList[i]'(by rw [← size_list]; exact hlt)]
        simp only [List.length_cons, List.length_nil] at z1 z2
        rw [z1, z2, if_pos (by omega), e1]
        refine ih (i + 1) k _ (by omega) (by omega) (by simp; omega) ?_ (by omega)
        rw [List.all_append, ha]
        simp only [List.all_cons, List.all_nil, Bool.and_true, Bool.true_and, isNL, Bool.not_or, Bool.and_eq_true, Bool.not_eq_true', beq_eq_false_iff_ne]
        constructor
        · intro e; apply h10; rw [e]; rfl
        · intro e; apply h13; rw [e]; rfl
theorem LexSkips : hornbooklaw03_LexSkips.Pure := by
  intro a0 a1 a2 h0 h1 h2
  obtain ⟨k, hk⟩ : ∃ k : Nat, 6000 ≤ k := ⟨6000, Nat.le_refl _⟩
  refine ⟨k, ?_⟩
  unfold hornbooklaw03_LexSkips.f
  rw [awake3 (by omega)]
  simp only [Option.bind_some]
  obtain ⟨k, rfl⟩ : ∃ m, k = m + 3 := ⟨k - 3, by omega⟩
  have big : hornbooklaw03_LexSkips.j0 (k + 3) a0 a1 a2 true true = some true := by simp only [hornbooklaw03_LexSkips.j0]; rw [if_pos trivial]
  by_cases hs : (a0.size : Int) > 500
  · rw [if_pos hs]; exact big
  · rw [if_neg hs]
    by_cases hn : (a2.size : Int) > 300
    · rw [decide_eq_true hn]; exact big
    · rw [decide_eq_false hn]
      simp only [hornbooklaw03_LexSkips.j0]
      have hle := skipN_le a0 a1
      have hpl := placeN_le a0 a1
      have hst : skipN a0 (skipN a0 a1 : Int) = skipN a0 a1 := by
        have hp : placeN a0 (skipN a0 a1 : Int) = skipN a0 a1 := by unfold placeN; omega
        have : skipG false (a0.data.toList.drop (skipN a0 a1)) = 0 := by
          unfold skipN
          rw [← List.drop_drop]
          exact skipG_stable _ false
        have e : skipN a0 (skipN a0 a1 : Int) = placeN a0 (skipN a0 a1 : Int) + skipG false (a0.data.toList.drop (placeN a0 (skipN a0 a1 : Int))) := rfl
        rw [e, hp, this]; rfl
      have hge : placeN a0 a1 ≤ skipN a0 a1 := by unfold skipN; omega
      have fin2 : hornbooklaw03_LexSkips.j2 (k + 1) a0 a2 true false = some true := by
        simp only [hornbooklaw03_LexSkips.j2]
        rw [if_neg (by simp)]
        exact skips_loop a0 a2 (by omega) (by omega) _ 0 k [] rfl (by omega) (by simp) rfl (by omega)
      have fin1 : hornbooklaw03_LexSkips.j1 (k + 2) a0 a2 true (skipN a0 a1) false = some true := by
        simp only [hornbooklaw03_LexSkips.j1]
        rw [if_neg (by simp)]
        by_cases hl : skipN a0 a1 < a0.size
        · have hz : skipG false (a0.data.toList.drop (skipN a0 a1)) = 0 := by
            unfold skipN
            rw [← List.drop_drop]
            exact skipG_stable _ false
          rw [List.drop_eq_getElem_cons (by rw [← size_list]; exact hl)] at hz
          obtain ⟨z1, z2⟩ := skipG_zero _ _ hz
          rw [if_pos (by omega), if_pos (by omega), cls_get a0 _ hl (by omega)]
          simp only [Option.bind_some]
          rw [if_neg (by simpa using z2), bt_get a0 _ hl]
          have : (((a0.data.toList[skipN a0 a1]'(by rw [← size_list]; exact hl)).toNat : Int) == 37) = false := by
            rw [beq_eq_false_iff_ne] at z1 ⊢
            intro e; apply z1
            exact UInt8.toNat_inj.1 (show _ = (37 : UInt8).toNat by have : (37 : UInt8).toNat = 37 := rfl; omega)
          rw [this]
          exact fin2
        · rw [if_neg (by omega)]
          exact fin2
      rw [if_neg (by simp), skip_eq a0 (by omega) a1 (by omega)]
      simp only [Option.bind_some]
      rw [if_neg (by omega), if_neg (by omega), skip_eq a0 (by omega) _ (by omega), hst]
      simp only [Option.bind_some]
      rw [if_pos trivial]
      split
      · split
        · have : decide ((skipN a0 a1 : Int) < a1) = false := by
            apply decide_eq_false
            have : placeN a0 a1 = a1.toNat := by unfold placeN; omega
            omega
          rw [this]; exact fin1
        · exact fin1
      · exact fin1
end Go.Proofs.YtaolcbklpdodaaaDoor.M
