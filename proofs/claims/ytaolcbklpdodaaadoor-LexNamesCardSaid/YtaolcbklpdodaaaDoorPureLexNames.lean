/- The plain law of LexNames: what is written of a name is one word of plain bytes, and is that name again. -/
import Derived.Test.YtaolcbklpdodaaaDoorPq
import Derived.Test.YtaolcbklpdodaaaDoorQ3
import Derived.Test.YtaolcbklpdodaaaDoorAw3
namespace Go.Proofs.YtaolcbklpdodaaaDoor.M
open Go.RowKit Go.Proofs.YtaolcbklpdodaaaDoorW.PrintWords
set_option linter.unusedVariables false
theorem names_loop (a0 t x5 : ByteArray) (x6 : Int) (ht : t.size < 4611686018427387904) (hok : t.data.toList.all (fun c => decide (33 ≤ c.toNat) && decide (c.toNat ≤ 126) && isRegB c) = true) (d : Nat) : ∀ (i k : Nat), t.size - i = d → i ≤ t.size → d + 4 ≤ k →
    hornbooklaw03_LexNames.l0 k a0 true t x5 x6 i = hornbooklaw03_LexNames.l0 1 a0 true t x5 x6 t.size := by
  induction d with
  | zero =>
    intro i k hd hi hk
    obtain ⟨k, rfl⟩ : ∃ m, k = m + 1 := ⟨k - 1, by omega⟩
    have : i = t.size := by omega
    subst this
    simp only [hornbooklaw03_LexNames.l0]
    have hn : ¬ (t.size : Int) < t.size := by omega
    rw [if_neg hn, if_neg hn]
  | succ d ih =>
    intro i k hd hi hk
    obtain ⟨k, rfl⟩ : ∃ m, k = m + 1 := ⟨k - 1, by omega⟩
    have hlt : i < t.size := by omega
    have hc := List.all_eq_true.1 hok _ (List.getElem_mem (l := t.data.toList) (n := i) (by rw [← size_list]; exact hlt))
    simp only [Bool.and_eq_true, decide_eq_true_eq] at hc
    have hb := bt_get t i hlt
    rw [hornbooklaw03_LexNames.l0, if_pos (by omega), if_pos (by omega), cls_get t i hlt (by omega), hb, if_neg (by omega), if_neg (by omega)]
    simp only [Option.bind_some]
    have h0 : clsOf (t.data.toList[i]).toNat = 0 := by simpa [isRegB] using hc.2
    rw [if_pos h0, wrap_small (by omega) (by omega), show ((i : Int) + 1) = ((i + 1 : Nat) : Int) by omega]
    exact ih (i + 1) k (by omega) (by omega) (by omega)
theorem LexNames : hornbooklaw03_LexNames.Pure := by
  intro a0 h0
  obtain ⟨k, hk⟩ : ∃ k : Nat, 4000 ≤ k := ⟨4000, Nat.le_refl _⟩
  refine ⟨k, ?_⟩
  unfold hornbooklaw03_LexNames.f
  rw [awake3 (by omega)]
  simp only [Option.bind_some]
  by_cases hs : (a0.size : Int) > 500
  · rw [if_pos hs]
  · rw [if_neg hs]
    have hw : lex_Write.f a0 = some ⟨(writeBytes a0.data.toList).toArray⟩ := by unfold lex_Write.f; rw [if_pos (by omega)]
    have hlen := writeBytes_length a0.data.toList
    rw [← size_list] at hlen
    have hsz := ba_size (writeBytes a0.data.toList)
    rw [hw]
    simp only [Option.bind_some]
    have e2 : (⟨(writeBytes a0.data.toList).toArray⟩ ++ (⟨#[32, 120]⟩ : ByteArray) : ByteArray) = ⟨(writeBytes a0.data.toList ++ [32, 120]).toArray⟩ := by
      rw [ba_eta (_ ++ _)]
      simp
    rw [hsz, if_pos (by omega), e2]
    have hsz2 := ba_size (writeBytes a0.data.toList ++ [32, 120])
    rw [List.length_append] at hsz2
    simp only [List.length_cons, List.length_nil] at hsz2
    rw [word_eq _ (by omega) 0 (by omega)]
    have hp : placeN ⟨(writeBytes a0.data.toList ++ [32, 120]).toArray⟩ 0 = 0 := by unfold placeN; omega
    have hok := writeBytes_ok a0.data.toList
    have hwd : wordAt (writeBytes a0.data.toList ++ [32, 120]) 0 = writeBytes a0.data.toList := by
      unfold wordAt
      rw [List.drop_zero]
      have key : ∀ l : List UInt8, l.all (fun c => decide (33 ≤ c.toNat) && decide (c.toNat ≤ 126) && isRegB c) = true → (l ++ [32, 120]).takeWhile isRegB = l := by
        intro l
        induction l with
        | nil => intro _; decide
        | cons c l ih =>
          intro h
          simp only [List.all_cons, Bool.and_eq_true] at h
          rw [List.cons_append, List.takeWhile_cons, if_pos h.1.2, ih (by simpa using h.2)]
      exact key _ hok
    rw [hp, ba_list, hwd]
    simp only [Option.bind_some]
    rw [show (0 : Int) = ((0 : Nat) : Int) by rfl, names_loop a0 _ _ _ (by omega) (by rw [ba_list]; exact hok) _ 0 k rfl (by omega) (by omega)]
    have hn : lex_Name.f ⟨(writeBytes a0.data.toList).toArray⟩ = some a0 := by
      unfold lex_Name.f
      rw [if_pos (by omega), ba_list, name_write, ← ba_eta]
    simp only [hornbooklaw03_LexNames.l0]
    rw [if_neg (by omega), if_pos (by trivial), hn]
    simp only [Option.bind_some]
    rw [if_pos trivial, if_pos trivial, if_pos (by omega), if_pos (by omega), wrap_small (by omega) (by omega)]
    congr 1
    exact decide_eq_true (by omega)
end Go.Proofs.YtaolcbklpdodaaaDoor.M
