/- Proved: the statement LexIs: of any number, text and place the class, what is behind blanks and remarks, a word, a number, and a name read and written, are what the document says (for texts of up to 1000 bytes). -/
/- Packed by this session's program hbpack.py out of this claim's own texts (Q16, Q5, Is, Q7, Q4, Q6, Q8, Q3, Wr, Pq, Pd, Ps, Aw3, PureLexIs, LawLexIs): the same declarations, without those that the claim does not use. -/
import Derived.Test.YtaolcbklpdodaaaGreatDoorPkLexIs2
import Derived.LaidEql
import Derived.Stop.Asserts
import Derived.RowKitTokens
import Derived.HandedShaped
import Derived.ProofKit
import Derived.LaidMore
import Derived.Lay
import Derived.Stop.Joined
import Derived.Shelf.Vars
import Derived.Stop.LaidErr
import Derived.Test.YtaolcbklpdodaaaGreatDoorRows
import Derived.Lib.ParseIntBCases
import Derived.Laws.BitsLemmas
import Derived.WalkKit
import Derived.OpenShut
import Derived.ShutString
import Derived.ChangeOld
import Derived.Below
import Derived.SizedLaws
import Derived.SevenTiedAt
import Derived.Test.YtaolcbklpdodaaaGreatDoorCards
import Derived.Test.YtaolcbklpdodaaaGreatDoorTie
section
/- Laid by this session's program hbprint.py out of the translation: the function hornbook/hornbookref03.Write and its contract. -/
namespace Go.Proofs.YtaolcbklpdodaaaGreatDoor.M
open Go.RowKit Go.Proofs.YtaolcbklpdodaaaGreatDoorW.PrintWords Go.Proofs.YtaolcbklpdodaaaGreatDoorW.PrintLast Go.Proofs.YtaolcbklpdodaaaGreatDoorW.PrintMore
attribute [local go_sem] max2_int min2_int max_two min_two max_three min_three max_four min_four
set_option linter.unusedVariables false
set_option linter.unusedSimpArgs false
def hornbookref03_Write.l0 : Nat → ByteArray → ByteArray → Int → Option (ByteArray)
  | 0, _, _, _ => none
  | k + 1, x0, x3, x4 => if x4 < (x0.size : Int) then (if 0 ≤ x4 then ((hornbookref03_Class.f k (wrap64 (bt x0 x4))).bind fun t151 => (if t151 = 0 then (if (bt x0 x4) = 35 then (if x3.size + 1 ≤ 9223372036854775807 then ((hornbookref01_Hex.f k (([bt x0 x4] : List Int))).bind fun t155 => (if (x3 ++ (⟨#[35]⟩ : ByteArray)).size + t155.size ≤ 9223372036854775807 then (hornbookref03_Write.l0 k x0 ((x3 ++ (⟨#[35]⟩ : ByteArray)) ++ t155) (wrap64 (x4 + 1))) else (none))) else (none)) else (if (bt x0 x4) < 33 then (if x3.size + 1 ≤ 9223372036854775807 then ((hornbookref01_Hex.f k (([bt x0 x4] : List Int))).bind fun t159 => (if (x3 ++ (⟨#[35]⟩ : ByteArray)).size + t159.size ≤ 9223372036854775807 then (hornbookref03_Write.l0 k x0 ((x3 ++ (⟨#[35]⟩ : ByteArray)) ++ t159) (wrap64 (x4 + 1))) else (none))) else (none)) else (if (bt x0 x4) > 126 then (if x3.size + 1 ≤ 9223372036854775807 then ((hornbookref01_Hex.f k (([bt x0 x4] : List Int))).bind fun t163 => (if (x3 ++ (⟨#[35]⟩ : ByteArray)).size + t163.size ≤ 9223372036854775807 then (hornbookref03_Write.l0 k x0 ((x3 ++ (⟨#[35]⟩ : ByteArray)) ++ t163) (wrap64 (x4 + 1))) else (none))) else (none)) else ((some (([bt x0 x4] : List Int) : List Int)).bind fun y164 => (if x3.size + (strOfNums y164).size ≤ 9223372036854775807 then (hornbookref03_Write.l0 k x0 (x3 ++ (strOfNums y164)) (wrap64 (x4 + 1))) else (none)))))) else (if x3.size + 1 ≤ 9223372036854775807 then ((hornbookref01_Hex.f k (([bt x0 x4] : List Int))).bind fun t170 => (if (x3 ++ (⟨#[35]⟩ : ByteArray)).size + t170.size ≤ 9223372036854775807 then (hornbookref03_Write.l0 k x0 ((x3 ++ (⟨#[35]⟩ : ByteArray)) ++ t170) (wrap64 (x4 + 1))) else (none))) else (none)))) else (none)) else (some x3)
def hornbookref03_Write.f (k : Nat) (a0 : ByteArray) : Option (ByteArray) := hornbookref03_Write.l0 k a0 (⟨#[]⟩ : ByteArray) 0
set_option maxHeartbeats 8000000 in
set_option maxRecDepth 100000 in
theorem hornbookref03_Write.calls (k : Nat) (a0 : ByteArray) (r : ByteArray) (w : World) (h : hornbookref03_Write.f k a0 = some r) :
    Calls Tryz.prog 16 #[.string a0] w fun e w' => e = .returned (.string r) ∧ Below w.heap.size w w' := by
  have HB := Aside0.mk (Below.refl w.heap.size w)
  have H : (hornbookref03_Write.l0 k a0 (⟨#[]⟩ : ByteArray) 0) = some r := h
  clear h
  have H' := Aside0.mk H
  clear H
  go_enter Tryz.func16, Tryz.ntmps16
  go_wp2
  go_loopg [3, 4] k (fun kq v3 v4 w' => ∃ (x3_1 : ByteArray) (x4_1 : Int), v3 = .string x3_1 ∧ v4 = .int .i64 x4_1 ∧ Aside0 (hornbookref03_Write.l0 kq a0 x3_1 x4_1 = some r) ∧ Aside0 (kq ≤ k) ∧ Aside0 (Below w.heap.size w w'))
  case atStart => exact ⟨((⟨#[]⟩ : ByteArray)), (0), (by first | rfl | (simp; done) | (simp [*]; done)), (by first | rfl | (simp; done) | (simp [*]; done)), H', ⟨Nat.le_refl _⟩, ⟨by repeat (first | (with_reducible first | exact HB.out | apply below_alloc | apply pw_below_drewN | apply below_drew1) | exact HB.out)⟩⟩
  case round =>
    clear H'
    try clear c1
    obtain ⟨x3_1, x4_1, rfl, rfl, HA, HK1, HB⟩ := hrel
    cases gk with
    | zero => exact absurd HA.out (by simp [hornbookref03_Write.l0])
    | succ k1 =>
      have H := HA.out
      clear HA
      simp only [hornbookref03_Write.l0] at H
      by_cases c2 : x4_1 < (a0.size : Int)
      · rw [if_pos c2] at H
        have c2b0 : decide (x4_1 < (a0.size : Int)) = true := decide_eq_true c2
        clear c2
        by_cases c3 : 0 ≤ x4_1
        · rw [if_pos c3] at H
          have c3b0 : decide (0 ≤ x4_1) = true := decide_eq_true c3
          clear c3
          replace H := Option.bind_eq_some_iff.mp H
          obtain ⟨t151, A50, H⟩ := H
          replace H : (if t151 = 0 then (if (bt a0 x4_1) = 35 then (if x3_1.size + 1 ≤ 9223372036854775807 then ((hornbookref01_Hex.f k1 (([bt a0 x4_1] : List Int))).bind fun t155 => (if (x3_1 ++ (⟨#[35]⟩ : ByteArray)).size + t155.size ≤ 9223372036854775807 then (hornbookref03_Write.l0 k1 a0 ((x3_1 ++ (⟨#[35]⟩ : ByteArray)) ++ t155) (wrap64 (x4_1 + 1))) else (none))) else (none)) else (if (bt a0 x4_1) < 33 then (if x3_1.size + 1 ≤ 9223372036854775807 then ((hornbookref01_Hex.f k1 (([bt a0 x4_1] : List Int))).bind fun t159 => (if (x3_1 ++ (⟨#[35]⟩ : ByteArray)).size + t159.size ≤ 9223372036854775807 then (hornbookref03_Write.l0 k1 a0 ((x3_1 ++ (⟨#[35]⟩ : ByteArray)) ++ t159) (wrap64 (x4_1 + 1))) else (none))) else (none)) else (if (bt a0 x4_1) > 126 then (if x3_1.size + 1 ≤ 9223372036854775807 then ((hornbookref01_Hex.f k1 (([bt a0 x4_1] : List Int))).bind fun t163 => (if (x3_1 ++ (⟨#[35]⟩ : ByteArray)).size + t163.size ≤ 9223372036854775807 then (hornbookref03_Write.l0 k1 a0 ((x3_1 ++ (⟨#[35]⟩ : ByteArray)) ++ t163) (wrap64 (x4_1 + 1))) else (none))) else (none)) else ((some (([bt a0 x4_1] : List Int) : List Int)).bind fun y164 => (if x3_1.size + (strOfNums y164).size ≤ 9223372036854775807 then (hornbookref03_Write.l0 k1 a0 (x3_1 ++ (strOfNums y164)) (wrap64 (x4_1 + 1))) else (none)))))) else (if x3_1.size + 1 ≤ 9223372036854775807 then ((hornbookref01_Hex.f k1 (([bt a0 x4_1] : List Int))).bind fun t170 => (if (x3_1 ++ (⟨#[35]⟩ : ByteArray)).size + t170.size ≤ 9223372036854775807 then (hornbookref03_Write.l0 k1 a0 ((x3_1 ++ (⟨#[35]⟩ : ByteArray)) ++ t170) (wrap64 (x4_1 + 1))) else (none))) else (none))) = some r := H
          have A5 := Aside0.mk A50
          clear A50
          by_cases c6 : t151 = 0
          · rw [if_pos c6] at H
            have c6b0 : (t151 == 0) = true := beq_iff_eq.mpr c6
            have c6b1 : (t151 != 0) = false := bne_eq_false_iff_eq.mpr c6
            clear c6
            by_cases c7 : (bt a0 x4_1) = 35
            · rw [if_pos c7] at H
              have c7b0 : ((bt a0 x4_1) == 35) = true := beq_iff_eq.mpr c7
              have c7b1 : ((bt a0 x4_1) != 35) = false := bne_eq_false_iff_eq.mpr c7
              clear c7
              by_cases c8 : x3_1.size + 1 ≤ 9223372036854775807
              · rw [if_pos c8] at H
                have c8b0 := eq_true c8
                have c8b1 : decide (x3_1.size + 1 ≤ 9223372036854775807) = true := decide_eq_true c8
                try have c8b2 : (9223372036854775807 < x3_1.size + 1) = False := eq_false (Nat.not_lt.2 c8)
                obtain ⟨y152, hy152⟩ : ∃ y_ : List Int, y_ = (([bt a0 x4_1] : List Int)) := ⟨_, rfl⟩
                replace H : ((hornbookref01_Hex.f k1 y152).bind fun t155 => (if (x3_1 ++ (⟨#[35]⟩ : ByteArray)).size + t155.size ≤ 9223372036854775807 then (hornbookref03_Write.l0 k1 a0 ((x3_1 ++ (⟨#[35]⟩ : ByteArray)) ++ t155) (wrap64 (x4_1 + 1))) else (none))) = some r := by first | (rw [hy152]; with_reducible exact H) | (have H2_ := (Option.bind_some _ _).symm.trans H; rw [hy152]; with_reducible exact H2_) | (have H2_ := (Option.bind_some _ _).symm.trans H; with_reducible exact H2_) | with_reducible exact H | (rw [hy152]; exact H) | exact H
                have Ny152 := Aside0.mk hy152
                clear hy152
                replace H := Option.bind_eq_some_iff.mp H
                obtain ⟨t155, A90, H⟩ := H
                replace H : (if (x3_1 ++ (⟨#[35]⟩ : ByteArray)).size + t155.size ≤ 9223372036854775807 then (hornbookref03_Write.l0 k1 a0 ((x3_1 ++ (⟨#[35]⟩ : ByteArray)) ++ t155) (wrap64 (x4_1 + 1))) else (none)) = some r := H
                have A9 := Aside0.mk A90
                clear A90
                by_cases c10 : (x3_1 ++ (⟨#[35]⟩ : ByteArray)).size + t155.size ≤ 9223372036854775807
                · rw [if_pos c10] at H
                  have c10b0 := eq_true c10
                  have c10b1 : decide ((x3_1 ++ (⟨#[35]⟩ : ByteArray)).size + t155.size ≤ 9223372036854775807) = true := decide_eq_true c10
                  try have c10b2 : (9223372036854775807 < (x3_1 ++ (⟨#[35]⟩ : ByteArray)).size + t155.size) = False := eq_false (Nat.not_lt.2 c10)
                  try have c10b9 : (9223372036854775807 < (x3_1.size + 1) + t155.size) = False := eq_false (Nat.not_lt.2 (by have h_ := c10; (repeat rw [ByteArray.size_append] at h_); exact h_))
                  have H' := Aside0.mk H
                  clear H
                  have p4 : 0 ≤ (x4_1 : Int) := of_decide_eq_true (by first | (with_reducible assumption) | assumption)
                  have q4 : x4_1 < (a0.size : Int) := of_decide_eq_true (by first | (with_reducible assumption) | assumption)
                  have hx4 := bt_at a0 x4_1
                  replace p4 := eq_true p4
                  replace q4 := eq_true q4
                  go_wp2_with (first | ((with_reducible refine gate_callee (f := 10) rfl ?_); refine goesL_ (some 17) rfl rfl Tryz.func10 (by kernel_rfl) rfl #[.int .i64 (wrap64 (bt a0 x4_1))] rfl (by (try simp only [List.map_toArray, List.map_cons, List.map_nil]); first | done | rfl | (simp only [List.length_drop, List.length_take]; rfl)) ?_; (with_reducible refine (hornbookref03_Class.calls k1 (wrap64 (bt a0 x4_1)) t151 _ A5.out).mono ?_); rintro e w' ⟨rfl, ⟨nd, rfl⟩⟩; refine ⟨_, rfl, ?_⟩) | ((with_reducible refine gate_dst (N := 34) rfl ?_); refine Kd.R_lit (Kd.int .u8) _ 5 ?hg (N := 34) ?hd (xs := ([bt a0 x4_1] : List Int)) (inner := [.int .u8 (bt a0 x4_1)]) (ok := fun _ => True) (okp := fun _ => True) ?hr ?hp (fun _ hk => hk) trivial (Below.refl _ _) (Nat.le_refl _) (by simp) ?_; (case hd => rfl); (case hg => rfl); (case hr => first | (go_simp; done) | (go_simp; rfl)); (case hp => exact (Reps.one (show Kd.M (Kd.int .u8) _ _ _ (bt a0 x4_1) [.int .u8 (bt a0 x4_1)] from rfl) (Reps.none _ _))); intro v153 w11 ho12 hb hg_ hnew_; clear hg_ hnew_; (first | rw [← Ny152.out] at ho12 | (simp only [Int.reduceToNat] at ho12; rw [← Ny152.out] at ho12)); have n0_ := Aside0.mk (Kd.R_lower ho12 (below_size (by repeat (first | (with_reducible first | exact HB.out | apply below_alloc | apply pw_below_drewN | apply below_drew1) | exact HB.out)))); have n1_ := Aside0.mk (below_step (by repeat (first | (with_reducible first | exact HB.out | apply below_alloc | apply pw_below_drewN | apply below_drew1) | exact HB.out)) hb); clear HB; have HO154 := n0_; have HB := n1_; clear n0_ n1_; clear hb ho12; obtain ⟨Ao13, co13, eo13⟩ := Kd.R_slice HO154.out; subst eo13) | ((with_reducible refine gate_callee (f := 32) rfl ?_); refine goesL_ (some 35) rfl rfl Tryz.func32 (by kernel_rfl) rfl #[.slice Ao13 y152.length co13] rfl (by (try simp only [List.map_toArray, List.map_cons, List.map_nil]); first | done | rfl | (simp only [List.length_drop, List.length_take]; rfl)) ?_; (with_reducible refine (hornbookref01_Hex.calls k1 _ _ y152 t155 _ ?side1 ?side2 A9.out).mono ?_); (case side1 => repeat (first | exact (Kd.R_reads' HO154.out).2.2 | (with_reducible refine Kd.C_alloc ?_ _) | (with_reducible refine Kd.C_drewN ?_ _) | (with_reducible refine Kd.C_drew ?_))); (case side2 => exact (Kd.R_reads' HO154.out).2.1); rintro e w14 ⟨rfl, hb⟩; refine ⟨_, rfl, ?_⟩; have n0_ := Aside0.mk (Kd.R_below (by (with_reducible repeat (first | apply Kd.R_alloc | apply Kd.R_drewN | apply Kd.R_drew)); exact HO154.out) hb); have n1_ := Aside0.mk (below_step (by repeat (first | (with_reducible first | exact HB.out | apply below_alloc | apply pw_below_drewN | apply below_drew1) | exact HB.out)) hb); clear HO154; clear HB; have HO154 := n0_; have HB := n1_; clear n0_ n1_; (try clear hb); (try clear hb2); (try clear hk); (try clear hi)))
                  go_roundg k1
                  case measure => have := HK1.out; omega
                  case rel => exact ⟨((x3_1 ++ (⟨#[35]⟩ : ByteArray)) ++ t155), (wrap64 (x4_1 + 1)), (by first | rfl | (simp; done) | (simp [*]; done)), (by first | rfl | (simp; done) | (simp [*]; done)), H', ⟨by have := HK1.out; omega⟩, ⟨by repeat (first | (with_reducible first | exact HB.out | apply below_alloc | apply pw_below_drewN | apply below_drew1) | exact HB.out)⟩⟩
                · rw [if_neg c10] at H
                  exact absurd H (by simp)
              · rw [if_neg c8] at H
                exact absurd H (by simp)
            · rw [if_neg c7] at H
              have c7b0 : ((bt a0 x4_1) == 35) = false := beq_eq_false_iff_ne.mpr c7
              have c7b1 : ((bt a0 x4_1) != 35) = true := bne_iff_ne.mpr c7
              by_cases c15 : (bt a0 x4_1) < 33
              · rw [if_pos c15] at H
                have c15b0 : decide ((bt a0 x4_1) < 33) = true := decide_eq_true c15
                clear c15
                by_cases c16 : x3_1.size + 1 ≤ 9223372036854775807
                · rw [if_pos c16] at H
                  have c16b0 := eq_true c16
                  have c16b1 : decide (x3_1.size + 1 ≤ 9223372036854775807) = true := decide_eq_true c16
                  try have c16b2 : (9223372036854775807 < x3_1.size + 1) = False := eq_false (Nat.not_lt.2 c16)
                  obtain ⟨y156, hy156⟩ : ∃ y_ : List Int, y_ = (([bt a0 x4_1] : List Int)) := ⟨_, rfl⟩
                  replace H : ((hornbookref01_Hex.f k1 y156).bind fun t159 => (if (x3_1 ++ (⟨#[35]⟩ : ByteArray)).size + t159.size ≤ 9223372036854775807 then (hornbookref03_Write.l0 k1 a0 ((x3_1 ++ (⟨#[35]⟩ : ByteArray)) ++ t159) (wrap64 (x4_1 + 1))) else (none))) = some r := by first | (rw [hy156]; with_reducible exact H) | (have H2_ := (Option.bind_some _ _).symm.trans H; rw [hy156]; with_reducible exact H2_) | (have H2_ := (Option.bind_some _ _).symm.trans H; with_reducible exact H2_) | with_reducible exact H | (rw [hy156]; exact H) | exact H
                  have Ny156 := Aside0.mk hy156
                  clear hy156
                  replace H := Option.bind_eq_some_iff.mp H
                  obtain ⟨t159, A170, H⟩ := H
                  replace H : (if (x3_1 ++ (⟨#[35]⟩ : ByteArray)).size + t159.size ≤ 9223372036854775807 then (hornbookref03_Write.l0 k1 a0 ((x3_1 ++ (⟨#[35]⟩ : ByteArray)) ++ t159) (wrap64 (x4_1 + 1))) else (none)) = some r := H
                  have A17 := Aside0.mk A170
                  clear A170
                  by_cases c18 : (x3_1 ++ (⟨#[35]⟩ : ByteArray)).size + t159.size ≤ 9223372036854775807
                  · rw [if_pos c18] at H
                    have c18b0 := eq_true c18
                    have c18b1 : decide ((x3_1 ++ (⟨#[35]⟩ : ByteArray)).size + t159.size ≤ 9223372036854775807) = true := decide_eq_true c18
                    try have c18b2 : (9223372036854775807 < (x3_1 ++ (⟨#[35]⟩ : ByteArray)).size + t159.size) = False := eq_false (Nat.not_lt.2 c18)
                    try have c18b9 : (9223372036854775807 < (x3_1.size + 1) + t159.size) = False := eq_false (Nat.not_lt.2 (by have h_ := c18; (repeat rw [ByteArray.size_append] at h_); exact h_))
                    have H' := Aside0.mk H
                    clear H
                    have p4 : 0 ≤ (x4_1 : Int) := of_decide_eq_true (by first | (with_reducible assumption) | assumption)
                    have q4 : x4_1 < (a0.size : Int) := of_decide_eq_true (by first | (with_reducible assumption) | assumption)
                    have hx4 := bt_at a0 x4_1
                    replace p4 := eq_true p4
                    replace q4 := eq_true q4
                    go_wp2_with (first | ((with_reducible refine gate_callee (f := 10) rfl ?_); refine goesL_ (some 17) rfl rfl Tryz.func10 (by kernel_rfl) rfl #[.int .i64 (wrap64 (bt a0 x4_1))] rfl (by (try simp only [List.map_toArray, List.map_cons, List.map_nil]); first | done | rfl | (simp only [List.length_drop, List.length_take]; rfl)) ?_; (with_reducible refine (hornbookref03_Class.calls k1 (wrap64 (bt a0 x4_1)) t151 _ A5.out).mono ?_); rintro e w' ⟨rfl, ⟨nd, rfl⟩⟩; refine ⟨_, rfl, ?_⟩) | ((with_reducible refine gate_dst (N := 34) rfl ?_); refine Kd.R_lit (Kd.int .u8) _ 5 ?hg (N := 34) ?hd (xs := ([bt a0 x4_1] : List Int)) (inner := [.int .u8 (bt a0 x4_1)]) (ok := fun _ => True) (okp := fun _ => True) ?hr ?hp (fun _ hk => hk) trivial (Below.refl _ _) (Nat.le_refl _) (by simp) ?_; (case hd => rfl); (case hg => rfl); (case hr => first | (go_simp; done) | (go_simp; rfl)); (case hp => exact (Reps.one (show Kd.M (Kd.int .u8) _ _ _ (bt a0 x4_1) [.int .u8 (bt a0 x4_1)] from rfl) (Reps.none _ _))); intro v157 w19 ho20 hb hg_ hnew_; clear hg_ hnew_; (first | rw [← Ny156.out] at ho20 | (simp only [Int.reduceToNat] at ho20; rw [← Ny156.out] at ho20)); have n0_ := Aside0.mk (Kd.R_lower ho20 (below_size (by repeat (first | (with_reducible first | exact HB.out | apply below_alloc | apply pw_below_drewN | apply below_drew1) | exact HB.out)))); have n1_ := Aside0.mk (below_step (by repeat (first | (with_reducible first | exact HB.out | apply below_alloc | apply pw_below_drewN | apply below_drew1) | exact HB.out)) hb); clear HB; have HO158 := n0_; have HB := n1_; clear n0_ n1_; clear hb ho20; obtain ⟨Ao21, co21, eo21⟩ := Kd.R_slice HO158.out; subst eo21) | ((with_reducible refine gate_callee (f := 32) rfl ?_); refine goesL_ (some 35) rfl rfl Tryz.func32 (by kernel_rfl) rfl #[.slice Ao21 y156.length co21] rfl (by (try simp only [List.map_toArray, List.map_cons, List.map_nil]); first | done | rfl | (simp only [List.length_drop, List.length_take]; rfl)) ?_; (with_reducible refine (hornbookref01_Hex.calls k1 _ _ y156 t159 _ ?side1 ?side2 A17.out).mono ?_); (case side1 => repeat (first | exact (Kd.R_reads' HO158.out).2.2 | (with_reducible refine Kd.C_alloc ?_ _) | (with_reducible refine Kd.C_drewN ?_ _) | (with_reducible refine Kd.C_drew ?_))); (case side2 => exact (Kd.R_reads' HO158.out).2.1); rintro e w22 ⟨rfl, hb⟩; refine ⟨_, rfl, ?_⟩; have n0_ := Aside0.mk (Kd.R_below (by (with_reducible repeat (first | apply Kd.R_alloc | apply Kd.R_drewN | apply Kd.R_drew)); exact HO158.out) hb); have n1_ := Aside0.mk (below_step (by repeat (first | (with_reducible first | exact HB.out | apply below_alloc | apply pw_below_drewN | apply below_drew1) | exact HB.out)) hb); clear HO158; clear HB; have HO158 := n0_; have HB := n1_; clear n0_ n1_; (try clear hb); (try clear hb2); (try clear hk); (try clear hi)))
                    go_roundg k1
                    case measure => have := HK1.out; omega
                    case rel => exact ⟨((x3_1 ++ (⟨#[35]⟩ : ByteArray)) ++ t159), (wrap64 (x4_1 + 1)), (by first | rfl | (simp; done) | (simp [*]; done)), (by first | rfl | (simp; done) | (simp [*]; done)), H', ⟨by have := HK1.out; omega⟩, ⟨by repeat (first | (with_reducible first | exact HB.out | apply below_alloc | apply pw_below_drewN | apply below_drew1) | exact HB.out)⟩⟩
                  · rw [if_neg c18] at H
                    exact absurd H (by simp)
                · rw [if_neg c16] at H
                  exact absurd H (by simp)
              · rw [if_neg c15] at H
                have c15b0 : decide ((bt a0 x4_1) < 33) = false := decide_eq_false c15
                clear c15
                by_cases c23 : (bt a0 x4_1) > 126
                · rw [if_pos c23] at H
                  have c23b0 : decide (126 < (bt a0 x4_1)) = true := decide_eq_true c23
                  clear c23
                  by_cases c24 : x3_1.size + 1 ≤ 9223372036854775807
                  · rw [if_pos c24] at H
                    have c24b0 := eq_true c24
                    have c24b1 : decide (x3_1.size + 1 ≤ 9223372036854775807) = true := decide_eq_true c24
                    try have c24b2 : (9223372036854775807 < x3_1.size + 1) = False := eq_false (Nat.not_lt.2 c24)
                    obtain ⟨y160, hy160⟩ : ∃ y_ : List Int, y_ = (([bt a0 x4_1] : List Int)) := ⟨_, rfl⟩
                    replace H : ((hornbookref01_Hex.f k1 y160).bind fun t163 => (if (x3_1 ++ (⟨#[35]⟩ : ByteArray)).size + t163.size ≤ 9223372036854775807 then (hornbookref03_Write.l0 k1 a0 ((x3_1 ++ (⟨#[35]⟩ : ByteArray)) ++ t163) (wrap64 (x4_1 + 1))) else (none))) = some r := by first | (rw [hy160]; with_reducible exact H) | (have H2_ := (Option.bind_some _ _).symm.trans H; rw [hy160]; with_reducible exact H2_) | (have H2_ := (Option.bind_some _ _).symm.trans H; with_reducible exact H2_) | with_reducible exact H | (rw [hy160]; exact H) | exact H
                    have Ny160 := Aside0.mk hy160
                    clear hy160
                    replace H := Option.bind_eq_some_iff.mp H
                    obtain ⟨t163, A250, H⟩ := H
                    replace H : (if (x3_1 ++ (⟨#[35]⟩ : ByteArray)).size + t163.size ≤ 9223372036854775807 then (hornbookref03_Write.l0 k1 a0 ((x3_1 ++ (⟨#[35]⟩ : ByteArray)) ++ t163) (wrap64 (x4_1 + 1))) else (none)) = some r := H
                    have A25 := Aside0.mk A250
                    clear A250
                    by_cases c26 : (x3_1 ++ (⟨#[35]⟩ : ByteArray)).size + t163.size ≤ 9223372036854775807
                    · rw [if_pos c26] at H
                      have c26b0 := eq_true c26
                      have c26b1 : decide ((x3_1 ++ (⟨#[35]⟩ : ByteArray)).size + t163.size ≤ 9223372036854775807) = true := decide_eq_true c26
                      try have c26b2 : (9223372036854775807 < (x3_1 ++ (⟨#[35]⟩ : ByteArray)).size + t163.size) = False := eq_false (Nat.not_lt.2 c26)
                      try have c26b9 : (9223372036854775807 < (x3_1.size + 1) + t163.size) = False := eq_false (Nat.not_lt.2 (by have h_ := c26; (repeat rw [ByteArray.size_append] at h_); exact h_))
                      have H' := Aside0.mk H
                      clear H
                      have p4 : 0 ≤ (x4_1 : Int) := of_decide_eq_true (by first | (with_reducible assumption) | assumption)
                      have q4 : x4_1 < (a0.size : Int) := of_decide_eq_true (by first | (with_reducible assumption) | assumption)
                      have hx4 := bt_at a0 x4_1
                      replace p4 := eq_true p4
                      replace q4 := eq_true q4
                      go_wp2_with (first | ((with_reducible refine gate_callee (f := 10) rfl ?_); refine goesL_ (some 17) rfl rfl Tryz.func10 (by kernel_rfl) rfl #[.int .i64 (wrap64 (bt a0 x4_1))] rfl (by (try simp only [List.map_toArray, List.map_cons, List.map_nil]); first | done | rfl | (simp only [List.length_drop, List.length_take]; rfl)) ?_; (with_reducible refine (hornbookref03_Class.calls k1 (wrap64 (bt a0 x4_1)) t151 _ A5.out).mono ?_); rintro e w' ⟨rfl, ⟨nd, rfl⟩⟩; refine ⟨_, rfl, ?_⟩) | ((with_reducible refine gate_dst (N := 34) rfl ?_); refine Kd.R_lit (Kd.int .u8) _ 5 ?hg (N := 34) ?hd (xs := ([bt a0 x4_1] : List Int)) (inner := [.int .u8 (bt a0 x4_1)]) (ok := fun _ => True) (okp := fun _ => True) ?hr ?hp (fun _ hk => hk) trivial (Below.refl _ _) (Nat.le_refl _) (by simp) ?_; (case hd => rfl); (case hg => rfl); (case hr => first | (go_simp; done) | (go_simp; rfl)); (case hp => exact (Reps.one (show Kd.M (Kd.int .u8) _ _ _ (bt a0 x4_1) [.int .u8 (bt a0 x4_1)] from rfl) (Reps.none _ _))); intro v161 w27 ho28 hb hg_ hnew_; clear hg_ hnew_; (first | rw [← Ny160.out] at ho28 | (simp only [Int.reduceToNat] at ho28; rw [← Ny160.out] at ho28)); have n0_ := Aside0.mk (Kd.R_lower ho28 (below_size (by repeat (first | (with_reducible first | exact HB.out | apply below_alloc | apply pw_below_drewN | apply below_drew1) | exact HB.out)))); have n1_ := Aside0.mk (below_step (by repeat (first | (with_reducible first | exact HB.out | apply below_alloc | apply pw_below_drewN | apply below_drew1) | exact HB.out)) hb); clear HB; have HO162 := n0_; have HB := n1_; clear n0_ n1_; clear hb ho28; obtain ⟨Ao29, co29, eo29⟩ := Kd.R_slice HO162.out; subst eo29) | ((with_reducible refine gate_callee (f := 32) rfl ?_); refine goesL_ (some 35) rfl rfl Tryz.func32 (by kernel_rfl) rfl #[.slice Ao29 y160.length co29] rfl (by (try simp only [List.map_toArray, List.map_cons, List.map_nil]); first | done | rfl | (simp only [List.length_drop, List.length_take]; rfl)) ?_; (with_reducible refine (hornbookref01_Hex.calls k1 _ _ y160 t163 _ ?side1 ?side2 A25.out).mono ?_); (case side1 => repeat (first | exact (Kd.R_reads' HO162.out).2.2 | (with_reducible refine Kd.C_alloc ?_ _) | (with_reducible refine Kd.C_drewN ?_ _) | (with_reducible refine Kd.C_drew ?_))); (case side2 => exact (Kd.R_reads' HO162.out).2.1); rintro e w30 ⟨rfl, hb⟩; refine ⟨_, rfl, ?_⟩; have n0_ := Aside0.mk (Kd.R_below (by (with_reducible repeat (first | apply Kd.R_alloc | apply Kd.R_drewN | apply Kd.R_drew)); exact HO162.out) hb); have n1_ := Aside0.mk (below_step (by repeat (first | (with_reducible first | exact HB.out | apply below_alloc | apply pw_below_drewN | apply below_drew1) | exact HB.out)) hb); clear HO162; clear HB; have HO162 := n0_; have HB := n1_; clear n0_ n1_; (try clear hb); (try clear hb2); (try clear hk); (try clear hi)))
                      go_roundg k1
                      case measure => have := HK1.out; omega
                      case rel => exact ⟨((x3_1 ++ (⟨#[35]⟩ : ByteArray)) ++ t163), (wrap64 (x4_1 + 1)), (by first | rfl | (simp; done) | (simp [*]; done)), (by first | rfl | (simp; done) | (simp [*]; done)), H', ⟨by have := HK1.out; omega⟩, ⟨by repeat (first | (with_reducible first | exact HB.out | apply below_alloc | apply pw_below_drewN | apply below_drew1) | exact HB.out)⟩⟩
                    · rw [if_neg c26] at H
                      exact absurd H (by simp)
                  · rw [if_neg c24] at H
                    exact absurd H (by simp)
                · rw [if_neg c23] at H
                  have c23b0 : decide (126 < (bt a0 x4_1)) = false := decide_eq_false c23
                  clear c23
                  obtain ⟨y164, hy164⟩ : ∃ y_ : List Int, y_ = (([bt a0 x4_1] : List Int)) := ⟨_, rfl⟩
                  replace H : (if x3_1.size + (strOfNums y164).size ≤ 9223372036854775807 then (hornbookref03_Write.l0 k1 a0 (x3_1 ++ (strOfNums y164)) (wrap64 (x4_1 + 1))) else (none)) = some r := by first | (rw [hy164]; with_reducible exact H) | (have H2_ := (Option.bind_some _ _).symm.trans H; rw [hy164]; with_reducible exact H2_) | (have H2_ := (Option.bind_some _ _).symm.trans H; with_reducible exact H2_) | with_reducible exact H | (rw [hy164]; exact H) | exact H
                  have Ny164 := Aside0.mk hy164
                  clear hy164
                  by_cases c31 : x3_1.size + (strOfNums y164).size ≤ 9223372036854775807
                  · rw [if_pos c31] at H
                    have c31b0 := eq_true c31
                    have c31b1 : decide (x3_1.size + (strOfNums y164).size ≤ 9223372036854775807) = true := decide_eq_true c31
                    try have c31b2 : (9223372036854775807 < x3_1.size + (strOfNums y164).size) = False := eq_false (Nat.not_lt.2 c31)
                    have H' := Aside0.mk H
                    clear H
                    have p4 : 0 ≤ (x4_1 : Int) := of_decide_eq_true (by first | (with_reducible assumption) | assumption)
                    have q4 : x4_1 < (a0.size : Int) := of_decide_eq_true (by first | (with_reducible assumption) | assumption)
                    have hx4 := bt_at a0 x4_1
                    replace p4 := eq_true p4
                    replace q4 := eq_true q4
                    go_wp2_with (first | ((with_reducible refine gate_callee (f := 10) rfl ?_); refine goesL_ (some 17) rfl rfl Tryz.func10 (by kernel_rfl) rfl #[.int .i64 (wrap64 (bt a0 x4_1))] rfl (by (try simp only [List.map_toArray, List.map_cons, List.map_nil]); first | done | rfl | (simp only [List.length_drop, List.length_take]; rfl)) ?_; (with_reducible refine (hornbookref03_Class.calls k1 (wrap64 (bt a0 x4_1)) t151 _ A5.out).mono ?_); rintro e w' ⟨rfl, ⟨nd, rfl⟩⟩; refine ⟨_, rfl, ?_⟩) | ((with_reducible refine gate_dst (N := 39) rfl ?_); refine Kd.R_lit (Kd.int .u8) _ 5 ?hg (N := 39) ?hd (xs := ([bt a0 x4_1] : List Int)) (inner := [.int .u8 (bt a0 x4_1)]) (ok := fun _ => True) (okp := fun _ => True) ?hr ?hp (fun _ hk => hk) trivial (Below.refl _ _) (Nat.le_refl _) (by simp) ?_; (case hd => rfl); (case hg => rfl); (case hr => first | (go_simp; done) | (go_simp; rfl)); (case hp => exact (Reps.one (show Kd.M (Kd.int .u8) _ _ _ (bt a0 x4_1) [.int .u8 (bt a0 x4_1)] from rfl) (Reps.none _ _))); intro v165 w32 ho33 hb hg_ hnew_; clear hg_ hnew_; (first | rw [← Ny164.out] at ho33 | (simp only [Int.reduceToNat] at ho33; rw [← Ny164.out] at ho33)); have n0_ := Aside0.mk (Kd.R_lower ho33 (below_size (by repeat (first | (with_reducible first | exact HB.out | apply below_alloc | apply pw_below_drewN | apply below_drew1) | exact HB.out)))); have n1_ := Aside0.mk (below_step (by repeat (first | (with_reducible first | exact HB.out | apply below_alloc | apply pw_below_drewN | apply below_drew1) | exact HB.out)) hb); clear HB; have HO166 := n0_; have HB := n1_; clear n0_ n1_; clear hb ho33; have hcv34 := own_string (P := Tryz.prog) Tryz.underlying41 Tryz.underlying5 Tryz.underlying9 (Kd.own_of_R HO166.out)))
                    go_roundg k1
                    case measure => have := HK1.out; omega
                    case rel => exact ⟨(x3_1 ++ (strOfNums y164)), (wrap64 (x4_1 + 1)), (by first | rfl | (simp; done) | (simp [*]; done)), (by first | rfl | (simp; done) | (simp [*]; done)), H', ⟨by have := HK1.out; omega⟩, ⟨by repeat (first | (with_reducible first | exact HB.out | apply below_alloc | apply pw_below_drewN | apply below_drew1) | exact HB.out)⟩⟩
                  · rw [if_neg c31] at H
                    exact absurd H (by simp)
          · rw [if_neg c6] at H
            have c6b0 : (t151 == 0) = false := beq_eq_false_iff_ne.mpr c6
            have c6b1 : (t151 != 0) = true := bne_iff_ne.mpr c6
            by_cases c35 : x3_1.size + 1 ≤ 9223372036854775807
            · rw [if_pos c35] at H
              have c35b0 := eq_true c35
              have c35b1 : decide (x3_1.size + 1 ≤ 9223372036854775807) = true := decide_eq_true c35
              try have c35b2 : (9223372036854775807 < x3_1.size + 1) = False := eq_false (Nat.not_lt.2 c35)
              obtain ⟨y167, hy167⟩ : ∃ y_ : List Int, y_ = (([bt a0 x4_1] : List Int)) := ⟨_, rfl⟩
              replace H : ((hornbookref01_Hex.f k1 y167).bind fun t170 => (if (x3_1 ++ (⟨#[35]⟩ : ByteArray)).size + t170.size ≤ 9223372036854775807 then (hornbookref03_Write.l0 k1 a0 ((x3_1 ++ (⟨#[35]⟩ : ByteArray)) ++ t170) (wrap64 (x4_1 + 1))) else (none))) = some r := by first | (rw [hy167]; with_reducible exact H) | (have H2_ := (Option.bind_some _ _).symm.trans H; rw [hy167]; with_reducible exact H2_) | (have H2_ := (Option.bind_some _ _).symm.trans H; with_reducible exact H2_) | with_reducible exact H | (rw [hy167]; exact H) | exact H
              have Ny167 := Aside0.mk hy167
              clear hy167
              replace H := Option.bind_eq_some_iff.mp H
              obtain ⟨t170, A360, H⟩ := H
              replace H : (if (x3_1 ++ (⟨#[35]⟩ : ByteArray)).size + t170.size ≤ 9223372036854775807 then (hornbookref03_Write.l0 k1 a0 ((x3_1 ++ (⟨#[35]⟩ : ByteArray)) ++ t170) (wrap64 (x4_1 + 1))) else (none)) = some r := H
              have A36 := Aside0.mk A360
              clear A360
              by_cases c37 : (x3_1 ++ (⟨#[35]⟩ : ByteArray)).size + t170.size ≤ 9223372036854775807
              · rw [if_pos c37] at H
                have c37b0 := eq_true c37
                have c37b1 : decide ((x3_1 ++ (⟨#[35]⟩ : ByteArray)).size + t170.size ≤ 9223372036854775807) = true := decide_eq_true c37
                try have c37b2 : (9223372036854775807 < (x3_1 ++ (⟨#[35]⟩ : ByteArray)).size + t170.size) = False := eq_false (Nat.not_lt.2 c37)
                try have c37b9 : (9223372036854775807 < (x3_1.size + 1) + t170.size) = False := eq_false (Nat.not_lt.2 (by have h_ := c37; (repeat rw [ByteArray.size_append] at h_); exact h_))
                have H' := Aside0.mk H
                clear H
                have p4 : 0 ≤ (x4_1 : Int) := of_decide_eq_true (by first | (with_reducible assumption) | assumption)
                have q4 : x4_1 < (a0.size : Int) := of_decide_eq_true (by first | (with_reducible assumption) | assumption)
                have hx4 := bt_at a0 x4_1
                replace p4 := eq_true p4
                replace q4 := eq_true q4
                go_wp2_with (first | ((with_reducible refine gate_callee (f := 10) rfl ?_); refine goesL_ (some 17) rfl rfl Tryz.func10 (by kernel_rfl) rfl #[.int .i64 (wrap64 (bt a0 x4_1))] rfl (by (try simp only [List.map_toArray, List.map_cons, List.map_nil]); first | done | rfl | (simp only [List.length_drop, List.length_take]; rfl)) ?_; (with_reducible refine (hornbookref03_Class.calls k1 (wrap64 (bt a0 x4_1)) t151 _ A5.out).mono ?_); rintro e w' ⟨rfl, ⟨nd, rfl⟩⟩; refine ⟨_, rfl, ?_⟩) | ((with_reducible refine gate_dst (N := 34) rfl ?_); refine Kd.R_lit (Kd.int .u8) _ 5 ?hg (N := 34) ?hd (xs := ([bt a0 x4_1] : List Int)) (inner := [.int .u8 (bt a0 x4_1)]) (ok := fun _ => True) (okp := fun _ => True) ?hr ?hp (fun _ hk => hk) trivial (Below.refl _ _) (Nat.le_refl _) (by simp) ?_; (case hd => rfl); (case hg => rfl); (case hr => first | (go_simp; done) | (go_simp; rfl)); (case hp => exact (Reps.one (show Kd.M (Kd.int .u8) _ _ _ (bt a0 x4_1) [.int .u8 (bt a0 x4_1)] from rfl) (Reps.none _ _))); intro v168 w38 ho39 hb hg_ hnew_; clear hg_ hnew_; (first | rw [← Ny167.out] at ho39 | (simp only [Int.reduceToNat] at ho39; rw [← Ny167.out] at ho39)); have n0_ := Aside0.mk (Kd.R_lower ho39 (below_size (by repeat (first | (with_reducible first | exact HB.out | apply below_alloc | apply pw_below_drewN | apply below_drew1) | exact HB.out)))); have n1_ := Aside0.mk (below_step (by repeat (first | (with_reducible first | exact HB.out | apply below_alloc | apply pw_below_drewN | apply below_drew1) | exact HB.out)) hb); clear HB; have HO169 := n0_; have HB := n1_; clear n0_ n1_; clear hb ho39; obtain ⟨Ao40, co40, eo40⟩ := Kd.R_slice HO169.out; subst eo40) | ((with_reducible refine gate_callee (f := 32) rfl ?_); refine goesL_ (some 35) rfl rfl Tryz.func32 (by kernel_rfl) rfl #[.slice Ao40 y167.length co40] rfl (by (try simp only [List.map_toArray, List.map_cons, List.map_nil]); first | done | rfl | (simp only [List.length_drop, List.length_take]; rfl)) ?_; (with_reducible refine (hornbookref01_Hex.calls k1 _ _ y167 t170 _ ?side1 ?side2 A36.out).mono ?_); (case side1 => repeat (first | exact (Kd.R_reads' HO169.out).2.2 | (with_reducible refine Kd.C_alloc ?_ _) | (with_reducible refine Kd.C_drewN ?_ _) | (with_reducible refine Kd.C_drew ?_))); (case side2 => exact (Kd.R_reads' HO169.out).2.1); rintro e w41 ⟨rfl, hb⟩; refine ⟨_, rfl, ?_⟩; have n0_ := Aside0.mk (Kd.R_below (by (with_reducible repeat (first | apply Kd.R_alloc | apply Kd.R_drewN | apply Kd.R_drew)); exact HO169.out) hb); have n1_ := Aside0.mk (below_step (by repeat (first | (with_reducible first | exact HB.out | apply below_alloc | apply pw_below_drewN | apply below_drew1) | exact HB.out)) hb); clear HO169; clear HB; have HO169 := n0_; have HB := n1_; clear n0_ n1_; (try clear hb); (try clear hb2); (try clear hk); (try clear hi)))
                go_roundg k1
                case measure => have := HK1.out; omega
                case rel => exact ⟨((x3_1 ++ (⟨#[35]⟩ : ByteArray)) ++ t170), (wrap64 (x4_1 + 1)), (by first | rfl | (simp; done) | (simp [*]; done)), (by first | rfl | (simp; done) | (simp [*]; done)), H', ⟨by have := HK1.out; omega⟩, ⟨by repeat (first | (with_reducible first | exact HB.out | apply below_alloc | apply pw_below_drewN | apply below_drew1) | exact HB.out)⟩⟩
              · rw [if_neg c37] at H
                exact absurd H (by simp)
            · rw [if_neg c35] at H
              exact absurd H (by simp)
        · rw [if_neg c3] at H
          exact absurd H (by simp)
      · rw [if_neg c2] at H
        have c2b0 : decide (x4_1 < (a0.size : Int)) = false := decide_eq_false c2
        clear c2
        obtain rfl := Option.some.inj H
        go_wp2
        go_ret
        exact ⟨by first | rfl | (simp [errW_none, errW_some] <;> rfl) | (simp [*, errW_none, errW_some] <;> rfl), by repeat (first | (with_reducible first | exact HB.out | apply below_alloc | apply pw_below_drewN | apply below_drew1) | exact HB.out)⟩
end Go.Proofs.YtaolcbklpdodaaaGreatDoor.M
end
section
/- Laid by this session's program hbprint.py out of the translation: the function hornbook/lex.Word and its contract. -/
namespace Go.Proofs.YtaolcbklpdodaaaGreatDoor.M
open Go.RowKit Go.Proofs.YtaolcbklpdodaaaGreatDoorW.PrintWords Go.Proofs.YtaolcbklpdodaaaGreatDoorW.PrintLast Go.Proofs.YtaolcbklpdodaaaGreatDoorW.PrintMore
attribute [local go_sem] max2_int min2_int max_two min_two max_three min_three max_four min_four
set_option linter.unusedVariables false
set_option linter.unusedSimpArgs false
def lex_Word.l0 : Nat → ByteArray → Int → Int → Option (ByteArray × Int)
  | 0, _, _, _ => none
  | k + 1, x0, x6, x7 => if x7 < (x0.size : Int) then (if 0 ≤ x7 then ((lex_Class.f k (wrap64 (bt x0 x7))).bind fun t103 => (if t103 = 0 then (lex_Word.l0 k x0 x6 (wrap64 (x7 + 1))) else (if 0 ≤ x6 then (if x6 ≤ x7 then (if x7 ≤ (x0.size : Int) then (some (x0.extract (x6 : Int).toNat (x7 : Int).toNat, x7)) else (none)) else (none)) else (none)))) else (none)) else (if 0 ≤ x6 then (if x6 ≤ x7 then (if x7 ≤ (x0.size : Int) then (some (x0.extract (x6 : Int).toNat (x7 : Int).toNat, x7)) else (none)) else (none)) else (none))
def lex_Word.f (k : Nat) (a0 : ByteArray) (a1 : Int) : Option (ByteArray × Int) := (lex_place.f a0 a1).bind fun t102 => (lex_Word.l0 k a0 t102 t102)
theorem lex_Word.mono_l : ∀ k, (∀ y0 y1 y2, LeO (lex_Word.l0 k y0 y1 y2) (lex_Word.l0 (k + 1) y0 y1 y2))
  | 0 => fun _ _ _ r h => by simp [lex_Word.l0] at h
  | k + 1 => by
    have ih0 := lex_Word.mono_l k
    · intro y0 y1 y2
      unfold lex_Word.l0
      repeat' first
      | (with_reducible exact ih0 _ _ _)
      | (with_reducible exact lex_Class.mono _ _)
      | (with_reducible exact LeO.refl _)
      | (with_reducible exact LeO.none _)
      | (with_reducible refine LeO.ite ?_ ?_)
      | (with_reducible refine LeO.bind ?_ (fun _ => ?_))
      | exact ih0 _ _ _
      | exact lex_Class.mono _ _
      | exact LeO.none _
      | refine LeO.ite ?_ ?_
      | refine LeO.bind ?_ (fun _ => ?_)
theorem lex_Word.mono : ∀ a0 a1 k, LeO (lex_Word.f k a0 a1) (lex_Word.f (k + 1) a0 a1) := by
  intro a0 a1 k
  have ih0 := lex_Word.mono_l k
  unfold lex_Word.f
  repeat' first
      | (with_reducible exact ih0 _ _ _)
      | (with_reducible exact lex_Class.mono _ _)
      | (with_reducible exact LeO.refl _)
      | (with_reducible exact LeO.none _)
      | (with_reducible refine LeO.ite ?_ ?_)
      | (with_reducible refine LeO.bind ?_ (fun _ => ?_))
      | exact ih0 _ _ _
      | exact lex_Class.mono _ _
      | exact LeO.none _
      | refine LeO.ite ?_ ?_
      | refine LeO.bind ?_ (fun _ => ?_)
set_option maxHeartbeats 8000000 in
set_option maxRecDepth 100000 in
theorem lex_Word.calls (k : Nat) (a0 : ByteArray) (a1 : Int) (r1 : ByteArray) (r2 : Int) (w : World) (h : lex_Word.f k a0 a1 = some (r1, r2)) :
    Calls Tryz.prog 5 #[.string a0, .int .i64 a1] w fun e w' => e = .returned (.tuple #[.string r1, .int .i64 r2]) ∧ Below w.heap.size w w' := by
  have HB := Aside0.mk (Below.refl w.heap.size w)
  have H : ((lex_place.f a0 a1).bind fun t102 => (lex_Word.l0 k a0 t102 t102)) = some (r1, r2) := h
  clear h
  replace H := Option.bind_eq_some_iff.mp H
  obtain ⟨t102, A30, H⟩ := H
  replace H : (lex_Word.l0 k a0 t102 t102) = some (r1, r2) := H
  have A3 := Aside0.mk A30
  clear A30
  have H' := Aside0.mk H
  clear H
  go_enter Tryz.func5, Tryz.ntmps5
  go_wp2_with (first | ((with_reducible refine gate_callee (f := 17) rfl ?_); refine goesL_ (some 10) rfl rfl Tryz.func17 (by kernel_rfl) rfl #[.string a0, .int .i64 a1] rfl (by (try simp only [List.map_toArray, List.map_cons, List.map_nil]); first | done | rfl | (simp only [List.length_drop, List.length_take]; rfl)) ?_; (with_reducible refine (lex_place.calls a0 a1 t102 _ A3.out).mono ?_); rintro e w4 ⟨rfl, hb⟩; refine ⟨_, rfl, ?_⟩; have n0_ := Aside0.mk (below_step (by repeat (first | (with_reducible first | exact HB.out | apply below_alloc | apply pw_below_drewN | apply below_drew1) | exact HB.out)) hb); clear HB; have HB := n0_; clear n0_; (try clear hb); (try clear hb2); (try clear hk); (try clear hi)))
  go_loopg [7] k (fun kq v7 w' => ∃ (x7_1 : Int), v7 = .int .i64 x7_1 ∧ Aside0 (lex_Word.l0 kq a0 t102 x7_1 = some (r1, r2)) ∧ Aside0 (kq ≤ k) ∧ Aside0 (Below w.heap.size w w'))
  case atStart => exact ⟨(t102), (by first | rfl | (simp; done) | (simp [*]; done)), H', ⟨Nat.le_refl _⟩, ⟨by repeat (first | (with_reducible first | exact HB.out | apply below_alloc | apply pw_below_drewN | apply below_drew1) | exact HB.out)⟩⟩
  case round =>
    clear H'
    try clear c1
    try clear p2
    obtain ⟨x7_1, rfl, HA, HK1, HB⟩ := hrel
    cases gk with
    | zero => exact absurd HA.out (by simp [lex_Word.l0])
    | succ k1 =>
      have H := HA.out
      clear HA
      simp only [lex_Word.l0] at H
      by_cases c5 : x7_1 < (a0.size : Int)
      · rw [if_pos c5] at H
        have c5b0 : decide (x7_1 < (a0.size : Int)) = true := decide_eq_true c5
        clear c5
        by_cases c6 : 0 ≤ x7_1
        · rw [if_pos c6] at H
          have c6b0 : decide (0 ≤ x7_1) = true := decide_eq_true c6
          clear c6
          replace H := Option.bind_eq_some_iff.mp H
          obtain ⟨t103, A80, H⟩ := H
          replace H : (if t103 = 0 then (lex_Word.l0 k1 a0 t102 (wrap64 (x7_1 + 1))) else (if 0 ≤ t102 then (if t102 ≤ x7_1 then (if x7_1 ≤ (a0.size : Int) then (some (a0.extract (t102 : Int).toNat (x7_1 : Int).toNat, x7_1)) else (none)) else (none)) else (none))) = some (r1, r2) := H
          have A8 := Aside0.mk A80
          clear A80
          by_cases c9 : t103 = 0
          · rw [if_pos c9] at H
            have c9b0 : (t103 == 0) = true := beq_iff_eq.mpr c9
            have c9b1 : (t103 != 0) = false := bne_eq_false_iff_eq.mpr c9
            clear c9
            have H' := Aside0.mk H
            clear H
            have p7 : 0 ≤ (x7_1 : Int) := of_decide_eq_true (by first | (with_reducible assumption) | assumption)
            have q7 : x7_1 < (a0.size : Int) := of_decide_eq_true (by first | (with_reducible assumption) | assumption)
            have hx7 := bt_at a0 x7_1
            replace p7 := eq_true p7
            replace q7 := eq_true q7
            go_wp2_with (first | (go_at_call 9; (with_reducible refine (lex_Class.calls k1 (wrap64 (bt a0 x7_1)) t103 _ A8.out).mono ?_); rintro e w10 ⟨rfl, hb⟩; have n0_ := Aside0.mk (below_step (by repeat (first | (with_reducible first | exact HB.out | apply below_alloc | apply pw_below_drewN | apply below_drew1) | exact HB.out)) hb); clear HB; have HB := n0_; clear n0_; (try clear hb); (try clear hb2); (try clear hk); (try clear hi)))
            go_roundg k1
            case measure => have := HK1.out; omega
            case rel => exact ⟨(wrap64 (x7_1 + 1)), (by first | rfl | (simp; done) | (simp [*]; done)), H', ⟨by have := HK1.out; omega⟩, ⟨by repeat (first | (with_reducible first | exact HB.out | apply below_alloc | apply pw_below_drewN | apply below_drew1) | exact HB.out)⟩⟩
          · rw [if_neg c9] at H
            have c9b0 : (t103 == 0) = false := beq_eq_false_iff_ne.mpr c9
            have c9b1 : (t103 != 0) = true := bne_iff_ne.mpr c9
            by_cases c11 : 0 ≤ t102
            · rw [if_pos c11] at H
              have c11b0 := eq_true c11
              have c11b1 : decide (0 ≤ t102) = true := decide_eq_true c11
              clear c11
              by_cases c12 : t102 ≤ x7_1
              · rw [if_pos c12] at H
                have c12b0 := eq_true c12
                have c12b1 : decide (t102 ≤ x7_1) = true := decide_eq_true c12
                clear c12
                by_cases c13 : x7_1 ≤ (a0.size : Int)
                · rw [if_pos c13] at H
                  have c13b0 := eq_true c13
                  have c13b1 : decide (x7_1 ≤ (a0.size : Int)) = true := decide_eq_true c13
                  clear c13
                  simp only [Option.some.injEq, Prod.mk.injEq] at H
                  obtain ⟨rfl, rfl⟩ := H
                  have p7 : 0 ≤ (x7_1 : Int) := of_decide_eq_true (by first | (with_reducible assumption) | assumption)
                  have q7 : x7_1 < (a0.size : Int) := of_decide_eq_true (by first | (with_reducible assumption) | assumption)
                  have hx7 := bt_at a0 x7_1
                  replace p7 := eq_true p7
                  replace q7 := eq_true q7
                  go_wp2_with (first | (go_at_call 9; (with_reducible refine (lex_Class.calls k1 (wrap64 (bt a0 x7_1)) t103 _ A8.out).mono ?_); rintro e w14 ⟨rfl, hb⟩; have n0_ := Aside0.mk (below_step (by repeat (first | (with_reducible first | exact HB.out | apply below_alloc | apply pw_below_drewN | apply below_drew1) | exact HB.out)) hb); clear HB; have HB := n0_; clear n0_; (try clear hb); (try clear hb2); (try clear hk); (try clear hi)))
                  go_ret2
                  exact ⟨by first | rfl | (simp [errW_none, errW_some] <;> rfl) | (simp [*, errW_none, errW_some] <;> rfl), by repeat (first | (with_reducible first | exact HB.out | apply below_alloc | apply pw_below_drewN | apply below_drew1) | exact HB.out)⟩
                · rw [if_neg c13] at H
                  exact absurd H (by simp)
              · rw [if_neg c12] at H
                exact absurd H (by simp)
            · rw [if_neg c11] at H
              exact absurd H (by simp)
        · rw [if_neg c6] at H
          exact absurd H (by simp)
      · rw [if_neg c5] at H
        have c5b0 : decide (x7_1 < (a0.size : Int)) = false := decide_eq_false c5
        clear c5
        by_cases c15 : 0 ≤ t102
        · rw [if_pos c15] at H
          have c15b0 := eq_true c15
          have c15b1 : decide (0 ≤ t102) = true := decide_eq_true c15
          clear c15
          by_cases c16 : t102 ≤ x7_1
          · rw [if_pos c16] at H
            have c16b0 := eq_true c16
            have c16b1 : decide (t102 ≤ x7_1) = true := decide_eq_true c16
            clear c16
            by_cases c17 : x7_1 ≤ (a0.size : Int)
            · rw [if_pos c17] at H
              have c17b0 := eq_true c17
              have c17b1 : decide (x7_1 ≤ (a0.size : Int)) = true := decide_eq_true c17
              clear c17
              simp only [Option.some.injEq, Prod.mk.injEq] at H
              obtain ⟨rfl, rfl⟩ := H
              go_wp2
              go_ret2
              exact ⟨by first | rfl | (simp [errW_none, errW_some] <;> rfl) | (simp [*, errW_none, errW_some] <;> rfl), by repeat (first | (with_reducible first | exact HB.out | apply below_alloc | apply pw_below_drewN | apply below_drew1) | exact HB.out)⟩
            · rw [if_neg c17] at H
              exact absurd H (by simp)
          · rw [if_neg c16] at H
            exact absurd H (by simp)
        · rw [if_neg c15] at H
          exact absurd H (by simp)
end Go.Proofs.YtaolcbklpdodaaaGreatDoor.M
end
section
namespace Go.Proofs.YtaolcbklpdodaaaGreatDoor.M
open Go.RowKit Go.Extern.Stop Go.Stop Go.Extern Go.Extern.Rtype Go.Proofs.YtaolcbklpdodaaaGreatDoorW.PrintWords
set_option linter.unusedVariables false
theorem isTypeOf (v : Value) (w : World) : (Extern.ReflectliteType.typeOf #[.iface 101 v]).run Tryz.prog w = .ok (.iface 79 (.agg #[.pointer (some ⟨8, 101, none⟩)])) w := by kernel_rfl
theorem isComparable (w : World) : ((Extern.ReflectliteType.method fun t => do noPackHeld "Comparable" t; (fun a => Value.bool a.comparable) <$> typeInfo t) #[.agg #[.pointer (some ⟨8, 101, none⟩)]]).run Tryz.prog w = .ok (.bool true) w := by kernel_rfl
theorem isMethodComparable (v : Value) (w : World) : (Go.method 254 79 v "Comparable").run Tryz.prog w = .ok (108, v) w := by kernel_rfl
theorem isComp : (Tryz.prog.info? 101).map (·.comparable) = some true := by kernel_rfl
theorem isSize : (Tryz.prog.info? 103).map (·.size) = some 1 := by kernel_rfl
theorem noIsE (v : Value) (xT : TypeId) (w : World) : (Instr.typeAssert (.iface 101 v) xT 81 true).run Tryz.prog w = .ok (.tuple #[.nilIface, .bool false]) w := run_typeAssert_lacksB Tryz.underlying81 (by kernel_rfl) (by kernel_rfl) v xT w
theorem noIsW (v : Value) (xT : TypeId) (w : World) : (Instr.typeAssert (.iface 75 v) xT 81 true).run Tryz.prog w = .ok (.tuple #[.nilIface, .bool false]) w := run_typeAssert_lacksB Tryz.underlying81 (by kernel_rfl) (by kernel_rfl) v xT w
theorem hasUnwrapW (v : Value) (xT : TypeId) (w : World) : (Instr.typeAssert (.iface 75 v) xT 84 true).run Tryz.prog w = .ok (.tuple #[.iface 75 v, .bool true]) w := run_typeAssert_hasB Tryz.underlying84 (by kernel_rfl) v xT w
theorem methodUnwrap (v : Value) (w : World) : (Go.method 254 75 v "Unwrap").run Tryz.prog w = .ok (104, v) w := by kernel_rfl
theorem is_nil (b : Addr) (w : World) :
    Calls Tryz.prog 21 #[.nilIface, .iface 101 (.pointer (some b))] w fun e w' => e = .returned (.bool false) ∧ w' = w := by
  have hn := run_eql_iface_nil_left (P := Tryz.prog) w 101 (.pointer (some b)) Tryz.underlying34
  go_enter Tryz.func21, Tryz.ntmps21
  go_wp2
  go_ret
  exact ⟨rfl, rfl⟩
set_option maxHeartbeats 1000000 in
set_option maxRecDepth 1000000 in
theorem is_wrap_same (pb : Nat) (b : Addr) (w : World) (h1 : w.cell? ⟨pb, 2, none⟩ = some (.iface 101 (.pointer (some b)))) :
    Calls Tryz.prog 21 #[.iface 75 (.pointer (some ⟨pb, 0, none⟩)), .iface 101 (.pointer (some b))] w fun e w' => e = .returned (.bool true) ∧ w' = w := by
  obtain ⟨i, hi, hcmp⟩ := Option.map_eq_some_iff.1 isComp
  obtain ⟨j, hj, hjs⟩ := Option.map_eq_some_iff.1 isSize
  have h8 := @run_callFunc_extern Tryz.prog 36 _ Extern.ReflectliteType.typeOf Tryz.func36 (by kernel_rfl) (by kernel_rfl) (by kernel_rfl) (by kernel_rfl)
  have h32 := @run_callFunc_extern Tryz.prog 108 _ (Extern.ReflectliteType.method fun t => do noPackHeld "Comparable" t; pure (.bool (← typeInfo t).comparable)) Tryz.func108 (by kernel_rfl) (by kernel_rfl) (by kernel_rfl) (by kernel_rfl)
  have tT := isTypeOf
  have cT := isComparable
  have mR := isMethodComparable
  have nE := noIsE
  have nW := noIsW
  have uW := hasUnwrapW
  have mU := methodUnwrap
  have heq := run_eql_iface_ptr_same (P := Tryz.prog) w b Tryz.underlying34 Tryz.underlying101 hi hcmp hj
  have hty := run_eql_iface_types (P := Tryz.prog) 75 101 (.pointer (some ⟨pb, 0, none⟩)) (.pointer (some b)) Tryz.underlying34 (by decide) w
  go_enter Tryz.func21, Tryz.ntmps21
  go_wp2
  refine wp_loop_rounds 2 ?_
  rw [rounds_succ]
  go_wp2
  rw [rounds_succ]
  go_wp2
  go_ret
  exact ⟨rfl, rfl⟩
end Go.Proofs.YtaolcbklpdodaaaGreatDoor.M
end
section
namespace Go.Proofs.YtaolcbklpdodaaaGreatDoor.M
open Go.RowKit Go.Proofs.YtaolcbklpdodaaaGreatDoorW.PrintWords
set_option linter.unusedVariables false
/-- A text's number, and the error's number: 3 no number, 4 too great. -/
def lexInt (l : List UInt8) : Int × Int := if wholeB l then (match Lib.parseIntB 32 l with | .ok v => (v, 0) | _ => (0, 4)) else (0, 3)
def lex_Int.f (a0 : ByteArray) : Option (Int × Int) := if a0.size ≤ 281474976710656 then some (lexInt a0.data.toList) else none
/-- Neither a number nor one that is too great. -/
def badNum {α : Type} : Lib.NumEnd α → Bool
  | .ok _ => false
  | .range => false
  | _ => true
theorem parseUintM_digits (M : Nat) : ∀ (l : List UInt8) (acc : Nat), l.all isDigB = true → badNum (Lib.parseUintM M acc l) = false
  | [], acc, _ => by simp [Lib.parseUintM, badNum]
  | c :: r, acc, h => by
    simp only [List.all_cons, Bool.and_eq_true, isDigB, decide_eq_true_eq] at h
    unfold Lib.parseUintM
    rw [if_pos ⟨h.1.1, h.1.2⟩]
    split
    · rfl
    · split
      · rfl
      · exact parseUintM_digits M r _ h.2
theorem parse_whole (l : List UInt8) (h : wholeB l = true) : badNum (Lib.parseIntB 32 l) = false := by
  match l with
  | [] => simp [wholeB, unsign] at h
  | c :: r =>
    have key : ∀ ds : List UInt8, ds ≠ [] → ds.all isDigB = true → badNum (Lib.parseUintB 32 ds) = false := by
      intro ds h1 h2
      unfold Lib.parseUintB
      rw [if_neg h1]
      exact parseUintM_digits _ _ _ h2
    have hu : (if c.toNat = 43 ∨ c.toNat = 45 then r else c :: r) = unsign (c :: r) := by
      have e1 : (c == 43) = decide (c.toNat = 43) := by rw [Bool.eq_iff_iff, beq_iff_eq, decide_eq_true_eq, ← UInt8.toNat_inj]; rfl
      have e2 : (c == 45) = decide (c.toNat = 45) := by rw [Bool.eq_iff_iff, beq_iff_eq, decide_eq_true_eq, ← UInt8.toNat_inj]; rfl
      simp [unsign, e1, e2]
    simp only [wholeB, Bool.and_eq_true, Bool.not_eq_true', List.isEmpty_eq_false_iff] at h
    have hk := key _ h.1 h.2
    unfold Lib.parseIntB
    simp only
    rw [hu]
    cases hp : Lib.parseUintB 32 (unsign (c :: r)) with
    | ok u =>
      simp only
      split
      · rfl
      · split
        · rfl
        · split <;> rfl
    | range => rfl
    | _ => rw [hp] at hk; exact absurd hk (by decide)
set_option maxHeartbeats 1000000 in
set_option maxRecDepth 1000000 in
theorem lex_Int.calls (a0 : ByteArray) (r1 r2 : Int) (w : World) (hG : GW w) (h : lex_Int.f a0 = some (r1, r2)) :
    Calls Tryz.prog 7 #[.string a0] w fun e w' => e = .returned (.tuple #[.int .i64 r1, .int .i64 r2]) ∧ Below w.heap.size w w' := by
  unfold lex_Int.f at h
  split at h
  case isFalse => cases h
  rename_i hl
  have he := Option.some.inj h
  clear h
  have hwh := whole_eq a0 (by omega)
  have HG := Aside0.mk hG
  clear hG
  unfold lexInt at he
  cases hb : wholeB a0.data.toList with
  | false =>
    rw [hb] at he hwh
    obtain ⟨rfl, rfl⟩ : 0 = r1 ∧ 3 = r2 := by simpa using he
    have HW := Aside0.mk hwh
    clear hwh he hb
    go_enter Tryz.func7, Tryz.ntmps7
    go_wp2_with (go_at_call 19; with_reducible refine (lex_whole.calls _ _ _ HW.out).mono ?_)
    rintro e w1 ⟨rfl, b1⟩
    go_wp2
    go_ret2
    exact ⟨rfl, b1⟩
  | true =>
    rw [hb] at he hwh
    have hns := parse_whole _ hb
    have HW := Aside0.mk hwh
    simp only [if_true] at he
    cases hp : Lib.parseIntB 32 a0.data.toList with
    | ok v =>
      rw [hp] at he
      obtain ⟨rfl, rfl⟩ : v = r1 ∧ 0 = r2 := by simpa using he
      have HP := Aside0.mk hp
      clear hwh he hb hp hns
      go_enter Tryz.func7, Tryz.ntmps7
      go_wp2_with (go_at_call 19; with_reducible refine (lex_whole.calls _ _ _ HW.out).mono ?_)
      rintro e w1 ⟨rfl, b1⟩
      go_wp2_with (go_at_call 20; with_reducible refine (Tryz.strconv_ParseInt_10_at32_ok _ (by omega) _ HP.out _).mono ?_)
      rintro e w2 ⟨rfl, hw2⟩
      have b2 : Below w.heap.size w w2 := by
        rcases hw2 with rfl | ⟨t, rfl⟩
        · exact b1
        · exact below_then b1 b1.size (Lib.bytesWorld_below _ _ _)
      clear hw2
      obtain ⟨a, ha⟩ := (GW.below b2 HG.out).range
      go_wp2_with (go_at_call 21; with_reducible refine (is_nil _ _).mono ?_)
      rintro e w3 ⟨rfl, rfl⟩
      go_wp2
      go_ret2
      exact ⟨rfl, b2⟩
    | range =>
      rw [hp] at he
      obtain ⟨rfl, rfl⟩ : 0 = r1 ∧ 4 = r2 := by simpa using he
      have HP := Aside0.mk hp
      clear hwh he hb hp hns
      go_enter Tryz.func7, Tryz.ntmps7
      go_wp2_with (go_at_call 19; with_reducible refine (lex_whole.calls _ _ _ HW.out).mono ?_)
      rintro e w1 ⟨rfl, b1⟩
      obtain ⟨a, ha⟩ := (GW.below b1 HG.out).range
      have HA := Aside0.mk ha
      clear ha
      go_wp2_with (go_at_call 20; with_reducible refine (Tryz.strconv_ParseInt_10_at32_range _ (by omega) HP.out _ _ HA.out (.inr ⟨_, _, rfl⟩)).mono ?_)
      rintro e w2 ⟨N, rfl, hN, hN2, b2⟩
      have ha2 := pw_cell_below b2 HA.out
      have hc2 : w2.cell? ⟨N, 2, none⟩ = some (.iface 101 (.pointer (some a))) := by rw [Lib.cell_of_heap hN2]; rfl
      replace b1 := below_then b1 b1.size b2
      clear hN hN2 b2
      go_wp2_with (go_at_call 21; with_reducible refine (is_wrap_same _ _ _ hc2).mono ?_)
      rintro e w3 ⟨rfl, rfl⟩
      go_wp2
      go_ret2
      exact ⟨rfl, b1⟩
    | _ => rw [hp] at hns; exact absurd hns (by decide)
end Go.Proofs.YtaolcbklpdodaaaGreatDoor.M
end
section
/- Laid by this session's program hbprint.py out of the translation: the function hornbook/hornbooklaw03.awake and its contract. -/
namespace Go.Proofs.YtaolcbklpdodaaaGreatDoor.M
open Go.RowKit Go.Proofs.YtaolcbklpdodaaaGreatDoorW.PrintWords Go.Proofs.YtaolcbklpdodaaaGreatDoorW.PrintLast Go.Proofs.YtaolcbklpdodaaaGreatDoorW.PrintMore
attribute [local go_sem] max2_int min2_int max_two min_two max_three min_three max_four min_four
set_option linter.unusedVariables false
set_option linter.unusedSimpArgs false
def hornbooklaw03_awake.f (k : Nat)  : Option (Bool) := (lex_Int.f (⟨#[45, 48, 55]⟩ : ByteArray)).bind fun bt114 => ((lex_Word.f k (⟨#[97, 98, 47, 99]⟩ : ByteArray) 0).bind fun bt116 => ((lex_Skip.f k (⟨#[32, 37, 32, 97, 10, 32, 98]⟩ : ByteArray) 0).bind fun t118 => (if t118 = 6 then ((lex_Name.f (⟨#[97, 35, 50, 48, 98]⟩ : ByteArray)).bind fun t119 => (if t119.toList = ([97, 32, 98] : List UInt8) then ((lex_Write.f (⟨#[97, 32, 98]⟩ : ByteArray)).bind fun t120 => (if t120.toList = ([97, 35, 50, 48, 98] : List UInt8) then (if bt114.1 = (-7) then (if bt114.2 = 0 then (if bt116.1.toList = ([97, 98] : List UInt8) then (if bt116.2 = 2 then ((lex_Class.f k 37).bind fun t121 => (some (t121 == 2))) else (some false)) else (some false)) else (some false)) else (some false)) else (some false))) else (some false))) else (some false))))
theorem hornbooklaw03_awake.mono : ∀ k, LeO (hornbooklaw03_awake.f k ) (hornbooklaw03_awake.f (k + 1) ) := by
  intro  k
  unfold hornbooklaw03_awake.f
  repeat' first
      | (with_reducible exact lex_Class.mono _ _)
      | (with_reducible exact lex_Skip.mono _ _ _)
      | (with_reducible exact lex_Word.mono _ _ _)
      | (with_reducible exact LeO.refl _)
      | (with_reducible exact LeO.none _)
      | (with_reducible refine LeO.ite ?_ ?_)
      | (with_reducible refine LeO.bind ?_ (fun _ => ?_))
      | exact lex_Class.mono _ _
      | exact lex_Skip.mono _ _ _
      | exact lex_Word.mono _ _ _
      | exact LeO.none _
      | refine LeO.ite ?_ ?_
      | refine LeO.bind ?_ (fun _ => ?_)
set_option maxHeartbeats 8000000 in
set_option maxRecDepth 100000 in
theorem hornbooklaw03_awake.calls (k : Nat)  (r : Bool) (w : World) (hG : GW w) (h : hornbooklaw03_awake.f k  = some r) :
    Calls Tryz.prog 4 #[] w fun e w' => e = .returned (.bool r) ∧ Below w.heap.size w w' := by
  have HG := Aside0.mk hG
  clear hG
  have HB := Aside0.mk (Below.refl w.heap.size w)
  have H : ((lex_Int.f (⟨#[45, 48, 55]⟩ : ByteArray)).bind fun bt114 => ((lex_Word.f k (⟨#[97, 98, 47, 99]⟩ : ByteArray) 0).bind fun bt116 => ((lex_Skip.f k (⟨#[32, 37, 32, 97, 10, 32, 98]⟩ : ByteArray) 0).bind fun t118 => (if t118 = 6 then ((lex_Name.f (⟨#[97, 35, 50, 48, 98]⟩ : ByteArray)).bind fun t119 => (if t119.toList = ([97, 32, 98] : List UInt8) then ((lex_Write.f (⟨#[97, 32, 98]⟩ : ByteArray)).bind fun t120 => (if t120.toList = ([97, 35, 50, 48, 98] : List UInt8) then (if bt114.1 = (-7) then (if bt114.2 = 0 then (if bt116.1.toList = ([97, 98] : List UInt8) then (if bt116.2 = 2 then ((lex_Class.f k 37).bind fun t121 => (some (t121 == 2))) else (some false)) else (some false)) else (some false)) else (some false)) else (some false))) else (some false))) else (some false))))) = some r := h
  clear h
  replace H := Option.bind_eq_some_iff.mp H
  obtain ⟨⟨t114, t115⟩, A10, H⟩ := H
  replace H : ((lex_Word.f k (⟨#[97, 98, 47, 99]⟩ : ByteArray) 0).bind fun bt116 => ((lex_Skip.f k (⟨#[32, 37, 32, 97, 10, 32, 98]⟩ : ByteArray) 0).bind fun t118 => (if t118 = 6 then ((lex_Name.f (⟨#[97, 35, 50, 48, 98]⟩ : ByteArray)).bind fun t119 => (if t119.toList = ([97, 32, 98] : List UInt8) then ((lex_Write.f (⟨#[97, 32, 98]⟩ : ByteArray)).bind fun t120 => (if t120.toList = ([97, 35, 50, 48, 98] : List UInt8) then (if t114 = (-7) then (if t115 = 0 then (if bt116.1.toList = ([97, 98] : List UInt8) then (if bt116.2 = 2 then ((lex_Class.f k 37).bind fun t121 => (some (t121 == 2))) else (some false)) else (some false)) else (some false)) else (some false)) else (some false))) else (some false))) else (some false)))) = some r := H
  have A1 := Aside0.mk A10
  clear A10
  replace H := Option.bind_eq_some_iff.mp H
  obtain ⟨⟨t116, t117⟩, A20, H⟩ := H
  replace H : ((lex_Skip.f k (⟨#[32, 37, 32, 97, 10, 32, 98]⟩ : ByteArray) 0).bind fun t118 => (if t118 = 6 then ((lex_Name.f (⟨#[97, 35, 50, 48, 98]⟩ : ByteArray)).bind fun t119 => (if t119.toList = ([97, 32, 98] : List UInt8) then ((lex_Write.f (⟨#[97, 32, 98]⟩ : ByteArray)).bind fun t120 => (if t120.toList = ([97, 35, 50, 48, 98] : List UInt8) then (if t114 = (-7) then (if t115 = 0 then (if t116.toList = ([97, 98] : List UInt8) then (if t117 = 2 then ((lex_Class.f k 37).bind fun t121 => (some (t121 == 2))) else (some false)) else (some false)) else (some false)) else (some false)) else (some false))) else (some false))) else (some false))) = some r := H
  have A2 := Aside0.mk A20
  clear A20
  replace H := Option.bind_eq_some_iff.mp H
  obtain ⟨t118, A30, H⟩ := H
  replace H : (if t118 = 6 then ((lex_Name.f (⟨#[97, 35, 50, 48, 98]⟩ : ByteArray)).bind fun t119 => (if t119.toList = ([97, 32, 98] : List UInt8) then ((lex_Write.f (⟨#[97, 32, 98]⟩ : ByteArray)).bind fun t120 => (if t120.toList = ([97, 35, 50, 48, 98] : List UInt8) then (if t114 = (-7) then (if t115 = 0 then (if t116.toList = ([97, 98] : List UInt8) then (if t117 = 2 then ((lex_Class.f k 37).bind fun t121 => (some (t121 == 2))) else (some false)) else (some false)) else (some false)) else (some false)) else (some false))) else (some false))) else (some false)) = some r := H
  have A3 := Aside0.mk A30
  clear A30
  by_cases c4 : t118 = 6
  · rw [if_pos c4] at H
    have c4b0 : (t118 == 6) = true := beq_iff_eq.mpr c4
    have c4b1 : (t118 != 6) = false := bne_eq_false_iff_eq.mpr c4
    clear c4
    replace H := Option.bind_eq_some_iff.mp H
    obtain ⟨t119, A50, H⟩ := H
    replace H : (if t119.toList = ([97, 32, 98] : List UInt8) then ((lex_Write.f (⟨#[97, 32, 98]⟩ : ByteArray)).bind fun t120 => (if t120.toList = ([97, 35, 50, 48, 98] : List UInt8) then (if t114 = (-7) then (if t115 = 0 then (if t116.toList = ([97, 98] : List UInt8) then (if t117 = 2 then ((lex_Class.f k 37).bind fun t121 => (some (t121 == 2))) else (some false)) else (some false)) else (some false)) else (some false)) else (some false))) else (some false)) = some r := H
    have A5 := Aside0.mk A50
    clear A50
    by_cases c6 : t119.toList = ([97, 32, 98] : List UInt8)
    · rw [if_pos c6] at H
      have c6b0 : (t119.toList == ([97, 32, 98] : List UInt8)) = true := beq_iff_eq.mpr c6
      have c6b1 : (t119.toList != ([97, 32, 98] : List UInt8)) = false := bne_eq_false_iff_eq.mpr c6
      clear c6
      replace H := Option.bind_eq_some_iff.mp H
      obtain ⟨t120, A70, H⟩ := H
      replace H : (if t120.toList = ([97, 35, 50, 48, 98] : List UInt8) then (if t114 = (-7) then (if t115 = 0 then (if t116.toList = ([97, 98] : List UInt8) then (if t117 = 2 then ((lex_Class.f k 37).bind fun t121 => (some (t121 == 2))) else (some false)) else (some false)) else (some false)) else (some false)) else (some false)) = some r := H
      have A7 := Aside0.mk A70
      clear A70
      by_cases c8 : t120.toList = ([97, 35, 50, 48, 98] : List UInt8)
      · rw [if_pos c8] at H
        have c8b0 : (t120.toList == ([97, 35, 50, 48, 98] : List UInt8)) = true := beq_iff_eq.mpr c8
        have c8b1 : (t120.toList != ([97, 35, 50, 48, 98] : List UInt8)) = false := bne_eq_false_iff_eq.mpr c8
        clear c8
        by_cases c9 : t114 = (-7)
        · rw [if_pos c9] at H
          have c9b0 : (t114 == (-7)) = true := beq_iff_eq.mpr c9
          have c9b1 : (t114 != (-7)) = false := bne_eq_false_iff_eq.mpr c9
          clear c9
          by_cases c10 : t115 = 0
          · rw [if_pos c10] at H
            have c10b0 : (t115 == 0) = true := beq_iff_eq.mpr c10
            have c10b1 : (t115 != 0) = false := bne_eq_false_iff_eq.mpr c10
            clear c10
            by_cases c11 : t116.toList = ([97, 98] : List UInt8)
            · rw [if_pos c11] at H
              have c11b0 : (t116.toList == ([97, 98] : List UInt8)) = true := beq_iff_eq.mpr c11
              have c11b1 : (t116.toList != ([97, 98] : List UInt8)) = false := bne_eq_false_iff_eq.mpr c11
              clear c11
              by_cases c12 : t117 = 2
              · rw [if_pos c12] at H
                have c12b0 : (t117 == 2) = true := beq_iff_eq.mpr c12
                have c12b1 : (t117 != 2) = false := bne_eq_false_iff_eq.mpr c12
                clear c12
                replace H := Option.bind_eq_some_iff.mp H
                obtain ⟨t121, A130, H⟩ := H
                replace H : (some (t121 == 2)) = some r := H
                have A13 := Aside0.mk A130
                clear A130
                obtain rfl := Option.some.inj H
                go_enter Tryz.func4, Tryz.ntmps4
                go_wp2_with (first | ((with_reducible refine gate_callee (f := 7) rfl ?_); refine goesL_ (some 6) rfl rfl Tryz.func7 (by kernel_rfl) rfl #[.string (⟨#[45, 48, 55]⟩ : ByteArray)] rfl (by (try simp only [List.map_toArray, List.map_cons, List.map_nil]); first | done | rfl | (simp only [List.length_drop, List.length_take]; rfl)) ?_; (with_reducible refine (lex_Int.calls (⟨#[45, 48, 55]⟩ : ByteArray) t114 t115 _ ?side1 A1.out).mono ?_); (case side1 => exact GW.below (by repeat (first | (with_reducible first | exact HB.out | apply below_alloc | apply pw_below_drewN | apply below_drew1) | exact HB.out)) HG.out); rintro e w14 ⟨rfl, hb⟩; refine ⟨_, rfl, ?_⟩; have n0_ := Aside0.mk (below_step (by repeat (first | (with_reducible first | exact HB.out | apply below_alloc | apply pw_below_drewN | apply below_drew1) | exact HB.out)) hb); clear HB; have HB := n0_; clear n0_; (try clear hb); (try clear hb2); (try clear hk); (try clear hi)) | ((with_reducible refine gate_callee (f := 5) rfl ?_); refine goesL_ (some 10) rfl rfl Tryz.func5 (by kernel_rfl) rfl #[.string (⟨#[97, 98, 47, 99]⟩ : ByteArray), .int .i64 0] rfl (by (try simp only [List.map_toArray, List.map_cons, List.map_nil]); first | done | rfl | (simp only [List.length_drop, List.length_take]; rfl)) ?_; (with_reducible refine (lex_Word.calls k (⟨#[97, 98, 47, 99]⟩ : ByteArray) 0 t116 t117 _ A2.out).mono ?_); rintro e w15 ⟨rfl, hb⟩; refine ⟨_, rfl, ?_⟩; have n0_ := Aside0.mk (below_step (by repeat (first | (with_reducible first | exact HB.out | apply below_alloc | apply pw_below_drewN | apply below_drew1) | exact HB.out)) hb); clear HB; have HB := n0_; clear n0_; (try clear hb); (try clear hb2); (try clear hk); (try clear hi)) | ((with_reducible refine gate_callee (f := 11) rfl ?_); refine goesL_ (some 13) rfl rfl Tryz.func11 (by kernel_rfl) rfl #[.string (⟨#[32, 37, 32, 97, 10, 32, 98]⟩ : ByteArray), .int .i64 0] rfl (by (try simp only [List.map_toArray, List.map_cons, List.map_nil]); first | done | rfl | (simp only [List.length_drop, List.length_take]; rfl)) ?_; (with_reducible refine (lex_Skip.calls k (⟨#[32, 37, 32, 97, 10, 32, 98]⟩ : ByteArray) 0 t118 _ A3.out).mono ?_); rintro e w16 ⟨rfl, hb⟩; refine ⟨_, rfl, ?_⟩; have n0_ := Aside0.mk (below_step (by repeat (first | (with_reducible first | exact HB.out | apply below_alloc | apply pw_below_drewN | apply below_drew1) | exact HB.out)) hb); clear HB; have HB := n0_; clear n0_; (try clear hb); (try clear hb2); (try clear hk); (try clear hi)) | (go_at_call 13; (with_reducible refine (lex_Name.calls (⟨#[97, 35, 50, 48, 98]⟩ : ByteArray) t119 _ A5.out).mono ?_); rintro e w17 ⟨rfl, hb⟩; have n0_ := Aside0.mk (below_step (by repeat (first | (with_reducible first | exact HB.out | apply below_alloc | apply pw_below_drewN | apply below_drew1) | exact HB.out)) hb); clear HB; have HB := n0_; clear n0_; (try clear hb); (try clear hb2); (try clear hk); (try clear hi)) | (go_at_call 15; (with_reducible refine (lex_Write.calls (⟨#[97, 32, 98]⟩ : ByteArray) t120 _ A7.out).mono ?_); rintro e w18 ⟨rfl, hb⟩; have n0_ := Aside0.mk (below_step (by repeat (first | (with_reducible first | exact HB.out | apply below_alloc | apply pw_below_drewN | apply below_drew1) | exact HB.out)) hb); clear HB; have HB := n0_; clear n0_; (try clear hb); (try clear hb2); (try clear hk); (try clear hi)) | (go_at_call 9; (with_reducible refine (lex_Class.calls k 37 t121 _ A13.out).mono ?_); rintro e w19 ⟨rfl, hb⟩; have n0_ := Aside0.mk (below_step (by repeat (first | (with_reducible first | exact HB.out | apply below_alloc | apply pw_below_drewN | apply below_drew1) | exact HB.out)) hb); clear HB; have HB := n0_; clear n0_; (try clear hb); (try clear hb2); (try clear hk); (try clear hi)))
                go_ret
                exact ⟨by first | rfl | (simp [errW_none, errW_some] <;> rfl) | (simp [*, errW_none, errW_some] <;> rfl), by repeat (first | (with_reducible first | exact HB.out | apply below_alloc | apply pw_below_drewN | apply below_drew1) | exact HB.out)⟩
              · rw [if_neg c12] at H
                have c12b0 : (t117 == 2) = false := beq_eq_false_iff_ne.mpr c12
                have c12b1 : (t117 != 2) = true := bne_iff_ne.mpr c12
                obtain rfl := Option.some.inj H
                go_enter Tryz.func4, Tryz.ntmps4
                go_wp2_with (first | ((with_reducible refine gate_callee (f := 7) rfl ?_); refine goesL_ (some 6) rfl rfl Tryz.func7 (by kernel_rfl) rfl #[.string (⟨#[45, 48, 55]⟩ : ByteArray)] rfl (by (try simp only [List.map_toArray, List.map_cons, List.map_nil]); first | done | rfl | (simp only [List.length_drop, List.length_take]; rfl)) ?_; (with_reducible refine (lex_Int.calls (⟨#[45, 48, 55]⟩ : ByteArray) t114 t115 _ ?side1 A1.out).mono ?_); (case side1 => exact GW.below (by repeat (first | (with_reducible first | exact HB.out | apply below_alloc | apply pw_below_drewN | apply below_drew1) | exact HB.out)) HG.out); rintro e w20 ⟨rfl, hb⟩; refine ⟨_, rfl, ?_⟩; have n0_ := Aside0.mk (below_step (by repeat (first | (with_reducible first | exact HB.out | apply below_alloc | apply pw_below_drewN | apply below_drew1) | exact HB.out)) hb); clear HB; have HB := n0_; clear n0_; (try clear hb); (try clear hb2); (try clear hk); (try clear hi)) | ((with_reducible refine gate_callee (f := 5) rfl ?_); refine goesL_ (some 10) rfl rfl Tryz.func5 (by kernel_rfl) rfl #[.string (⟨#[97, 98, 47, 99]⟩ : ByteArray), .int .i64 0] rfl (by (try simp only [List.map_toArray, List.map_cons, List.map_nil]); first | done | rfl | (simp only [List.length_drop, List.length_take]; rfl)) ?_; (with_reducible refine (lex_Word.calls k (⟨#[97, 98, 47, 99]⟩ : ByteArray) 0 t116 t117 _ A2.out).mono ?_); rintro e w21 ⟨rfl, hb⟩; refine ⟨_, rfl, ?_⟩; have n0_ := Aside0.mk (below_step (by repeat (first | (with_reducible first | exact HB.out | apply below_alloc | apply pw_below_drewN | apply below_drew1) | exact HB.out)) hb); clear HB; have HB := n0_; clear n0_; (try clear hb); (try clear hb2); (try clear hk); (try clear hi)) | ((with_reducible refine gate_callee (f := 11) rfl ?_); refine goesL_ (some 13) rfl rfl Tryz.func11 (by kernel_rfl) rfl #[.string (⟨#[32, 37, 32, 97, 10, 32, 98]⟩ : ByteArray), .int .i64 0] rfl (by (try simp only [List.map_toArray, List.map_cons, List.map_nil]); first | done | rfl | (simp only [List.length_drop, List.length_take]; rfl)) ?_; (with_reducible refine (lex_Skip.calls k (⟨#[32, 37, 32, 97, 10, 32, 98]⟩ : ByteArray) 0 t118 _ A3.out).mono ?_); rintro e w22 ⟨rfl, hb⟩; refine ⟨_, rfl, ?_⟩; have n0_ := Aside0.mk (below_step (by repeat (first | (with_reducible first | exact HB.out | apply below_alloc | apply pw_below_drewN | apply below_drew1) | exact HB.out)) hb); clear HB; have HB := n0_; clear n0_; (try clear hb); (try clear hb2); (try clear hk); (try clear hi)) | (go_at_call 13; (with_reducible refine (lex_Name.calls (⟨#[97, 35, 50, 48, 98]⟩ : ByteArray) t119 _ A5.out).mono ?_); rintro e w23 ⟨rfl, hb⟩; have n0_ := Aside0.mk (below_step (by repeat (first | (with_reducible first | exact HB.out | apply below_alloc | apply pw_below_drewN | apply below_drew1) | exact HB.out)) hb); clear HB; have HB := n0_; clear n0_; (try clear hb); (try clear hb2); (try clear hk); (try clear hi)) | (go_at_call 15; (with_reducible refine (lex_Write.calls (⟨#[97, 32, 98]⟩ : ByteArray) t120 _ A7.out).mono ?_); rintro e w24 ⟨rfl, hb⟩; have n0_ := Aside0.mk (below_step (by repeat (first | (with_reducible first | exact HB.out | apply below_alloc | apply pw_below_drewN | apply below_drew1) | exact HB.out)) hb); clear HB; have HB := n0_; clear n0_; (try clear hb); (try clear hb2); (try clear hk); (try clear hi)))
                go_ret
                exact ⟨by first | rfl | (simp [errW_none, errW_some] <;> rfl) | (simp [*, errW_none, errW_some] <;> rfl), by repeat (first | (with_reducible first | exact HB.out | apply below_alloc | apply pw_below_drewN | apply below_drew1) | exact HB.out)⟩
            · rw [if_neg c11] at H
              have c11b0 : (t116.toList == ([97, 98] : List UInt8)) = false := beq_eq_false_iff_ne.mpr c11
              have c11b1 : (t116.toList != ([97, 98] : List UInt8)) = true := bne_iff_ne.mpr c11
              obtain rfl := Option.some.inj H
              go_enter Tryz.func4, Tryz.ntmps4
              go_wp2_with (first | ((with_reducible refine gate_callee (f := 7) rfl ?_); refine goesL_ (some 6) rfl rfl Tryz.func7 (by kernel_rfl) rfl #[.string (⟨#[45, 48, 55]⟩ : ByteArray)] rfl (by (try simp only [List.map_toArray, List.map_cons, List.map_nil]); first | done | rfl | (simp only [List.length_drop, List.length_take]; rfl)) ?_; (with_reducible refine (lex_Int.calls (⟨#[45, 48, 55]⟩ : ByteArray) t114 t115 _ ?side1 A1.out).mono ?_); (case side1 => exact GW.below (by repeat (first | (with_reducible first | exact HB.out | apply below_alloc | apply pw_below_drewN | apply below_drew1) | exact HB.out)) HG.out); rintro e w25 ⟨rfl, hb⟩; refine ⟨_, rfl, ?_⟩; have n0_ := Aside0.mk (below_step (by repeat (first | (with_reducible first | exact HB.out | apply below_alloc | apply pw_below_drewN | apply below_drew1) | exact HB.out)) hb); clear HB; have HB := n0_; clear n0_; (try clear hb); (try clear hb2); (try clear hk); (try clear hi)) | ((with_reducible refine gate_callee (f := 5) rfl ?_); refine goesL_ (some 10) rfl rfl Tryz.func5 (by kernel_rfl) rfl #[.string (⟨#[97, 98, 47, 99]⟩ : ByteArray), .int .i64 0] rfl (by (try simp only [List.map_toArray, List.map_cons, List.map_nil]); first | done | rfl | (simp only [List.length_drop, List.length_take]; rfl)) ?_; (with_reducible refine (lex_Word.calls k (⟨#[97, 98, 47, 99]⟩ : ByteArray) 0 t116 t117 _ A2.out).mono ?_); rintro e w26 ⟨rfl, hb⟩; refine ⟨_, rfl, ?_⟩; have n0_ := Aside0.mk (below_step (by repeat (first | (with_reducible first | exact HB.out | apply below_alloc | apply pw_below_drewN | apply below_drew1) | exact HB.out)) hb); clear HB; have HB := n0_; clear n0_; (try clear hb); (try clear hb2); (try clear hk); (try clear hi)) | ((with_reducible refine gate_callee (f := 11) rfl ?_); refine goesL_ (some 13) rfl rfl Tryz.func11 (by kernel_rfl) rfl #[.string (⟨#[32, 37, 32, 97, 10, 32, 98]⟩ : ByteArray), .int .i64 0] rfl (by (try simp only [List.map_toArray, List.map_cons, List.map_nil]); first | done | rfl | (simp only [List.length_drop, List.length_take]; rfl)) ?_; (with_reducible refine (lex_Skip.calls k (⟨#[32, 37, 32, 97, 10, 32, 98]⟩ : ByteArray) 0 t118 _ A3.out).mono ?_); rintro e w27 ⟨rfl, hb⟩; refine ⟨_, rfl, ?_⟩; have n0_ := Aside0.mk (below_step (by repeat (first | (with_reducible first | exact HB.out | apply below_alloc | apply pw_below_drewN | apply below_drew1) | exact HB.out)) hb); clear HB; have HB := n0_; clear n0_; (try clear hb); (try clear hb2); (try clear hk); (try clear hi)) | (go_at_call 13; (with_reducible refine (lex_Name.calls (⟨#[97, 35, 50, 48, 98]⟩ : ByteArray) t119 _ A5.out).mono ?_); rintro e w28 ⟨rfl, hb⟩; have n0_ := Aside0.mk (below_step (by repeat (first | (with_reducible first | exact HB.out | apply below_alloc | apply pw_below_drewN | apply below_drew1) | exact HB.out)) hb); clear HB; have HB := n0_; clear n0_; (try clear hb); (try clear hb2); (try clear hk); (try clear hi)) | (go_at_call 15; (with_reducible refine (lex_Write.calls (⟨#[97, 32, 98]⟩ : ByteArray) t120 _ A7.out).mono ?_); rintro e w29 ⟨rfl, hb⟩; have n0_ := Aside0.mk (below_step (by repeat (first | (with_reducible first | exact HB.out | apply below_alloc | apply pw_below_drewN | apply below_drew1) | exact HB.out)) hb); clear HB; have HB := n0_; clear n0_; (try clear hb); (try clear hb2); (try clear hk); (try clear hi)))
              go_ret
              exact ⟨by first | rfl | (simp [errW_none, errW_some] <;> rfl) | (simp [*, errW_none, errW_some] <;> rfl), by repeat (first | (with_reducible first | exact HB.out | apply below_alloc | apply pw_below_drewN | apply below_drew1) | exact HB.out)⟩
          · rw [if_neg c10] at H
            have c10b0 : (t115 == 0) = false := beq_eq_false_iff_ne.mpr c10
            have c10b1 : (t115 != 0) = true := bne_iff_ne.mpr c10
            obtain rfl := Option.some.inj H
            go_enter Tryz.func4, Tryz.ntmps4
            go_wp2_with (first | ((with_reducible refine gate_callee (f := 7) rfl ?_); refine goesL_ (some 6) rfl rfl Tryz.func7 (by kernel_rfl) rfl #[.string (⟨#[45, 48, 55]⟩ : ByteArray)] rfl (by (try simp only [List.map_toArray, List.map_cons, List.map_nil]); first | done | rfl | (simp only [List.length_drop, List.length_take]; rfl)) ?_; (with_reducible refine (lex_Int.calls (⟨#[45, 48, 55]⟩ : ByteArray) t114 t115 _ ?side1 A1.out).mono ?_); (case side1 => exact GW.below (by repeat (first | (with_reducible first | exact HB.out | apply below_alloc | apply pw_below_drewN | apply below_drew1) | exact HB.out)) HG.out); rintro e w30 ⟨rfl, hb⟩; refine ⟨_, rfl, ?_⟩; have n0_ := Aside0.mk (below_step (by repeat (first | (with_reducible first | exact HB.out | apply below_alloc | apply pw_below_drewN | apply below_drew1) | exact HB.out)) hb); clear HB; have HB := n0_; clear n0_; (try clear hb); (try clear hb2); (try clear hk); (try clear hi)) | ((with_reducible refine gate_callee (f := 5) rfl ?_); refine goesL_ (some 10) rfl rfl Tryz.func5 (by kernel_rfl) rfl #[.string (⟨#[97, 98, 47, 99]⟩ : ByteArray), .int .i64 0] rfl (by (try simp only [List.map_toArray, List.map_cons, List.map_nil]); first | done | rfl | (simp only [List.length_drop, List.length_take]; rfl)) ?_; (with_reducible refine (lex_Word.calls k (⟨#[97, 98, 47, 99]⟩ : ByteArray) 0 t116 t117 _ A2.out).mono ?_); rintro e w31 ⟨rfl, hb⟩; refine ⟨_, rfl, ?_⟩; have n0_ := Aside0.mk (below_step (by repeat (first | (with_reducible first | exact HB.out | apply below_alloc | apply pw_below_drewN | apply below_drew1) | exact HB.out)) hb); clear HB; have HB := n0_; clear n0_; (try clear hb); (try clear hb2); (try clear hk); (try clear hi)) | ((with_reducible refine gate_callee (f := 11) rfl ?_); refine goesL_ (some 13) rfl rfl Tryz.func11 (by kernel_rfl) rfl #[.string (⟨#[32, 37, 32, 97, 10, 32, 98]⟩ : ByteArray), .int .i64 0] rfl (by (try simp only [List.map_toArray, List.map_cons, List.map_nil]); first | done | rfl | (simp only [List.length_drop, List.length_take]; rfl)) ?_; (with_reducible refine (lex_Skip.calls k (⟨#[32, 37, 32, 97, 10, 32, 98]⟩ : ByteArray) 0 t118 _ A3.out).mono ?_); rintro e w32 ⟨rfl, hb⟩; refine ⟨_, rfl, ?_⟩; have n0_ := Aside0.mk (below_step (by repeat (first | (with_reducible first | exact HB.out | apply below_alloc | apply pw_below_drewN | apply below_drew1) | exact HB.out)) hb); clear HB; have HB := n0_; clear n0_; (try clear hb); (try clear hb2); (try clear hk); (try clear hi)) | (go_at_call 13; (with_reducible refine (lex_Name.calls (⟨#[97, 35, 50, 48, 98]⟩ : ByteArray) t119 _ A5.out).mono ?_); rintro e w33 ⟨rfl, hb⟩; have n0_ := Aside0.mk (below_step (by repeat (first | (with_reducible first | exact HB.out | apply below_alloc | apply pw_below_drewN | apply below_drew1) | exact HB.out)) hb); clear HB; have HB := n0_; clear n0_; (try clear hb); (try clear hb2); (try clear hk); (try clear hi)) | (go_at_call 15; (with_reducible refine (lex_Write.calls (⟨#[97, 32, 98]⟩ : ByteArray) t120 _ A7.out).mono ?_); rintro e w34 ⟨rfl, hb⟩; have n0_ := Aside0.mk (below_step (by repeat (first | (with_reducible first | exact HB.out | apply below_alloc | apply pw_below_drewN | apply below_drew1) | exact HB.out)) hb); clear HB; have HB := n0_; clear n0_; (try clear hb); (try clear hb2); (try clear hk); (try clear hi)))
            go_ret
            exact ⟨by first | rfl | (simp [errW_none, errW_some] <;> rfl) | (simp [*, errW_none, errW_some] <;> rfl), by repeat (first | (with_reducible first | exact HB.out | apply below_alloc | apply pw_below_drewN | apply below_drew1) | exact HB.out)⟩
        · rw [if_neg c9] at H
          have c9b0 : (t114 == (-7)) = false := beq_eq_false_iff_ne.mpr c9
          have c9b1 : (t114 != (-7)) = true := bne_iff_ne.mpr c9
          obtain rfl := Option.some.inj H
          go_enter Tryz.func4, Tryz.ntmps4
          go_wp2_with (first | ((with_reducible refine gate_callee (f := 7) rfl ?_); refine goesL_ (some 6) rfl rfl Tryz.func7 (by kernel_rfl) rfl #[.string (⟨#[45, 48, 55]⟩ : ByteArray)] rfl (by (try simp only [List.map_toArray, List.map_cons, List.map_nil]); first | done | rfl | (simp only [List.length_drop, List.length_take]; rfl)) ?_; (with_reducible refine (lex_Int.calls (⟨#[45, 48, 55]⟩ : ByteArray) t114 t115 _ ?side1 A1.out).mono ?_); (case side1 => exact GW.below (by repeat (first | (with_reducible first | exact HB.out | apply below_alloc | apply pw_below_drewN | apply below_drew1) | exact HB.out)) HG.out); rintro e w35 ⟨rfl, hb⟩; refine ⟨_, rfl, ?_⟩; have n0_ := Aside0.mk (below_step (by repeat (first | (with_reducible first | exact HB.out | apply below_alloc | apply pw_below_drewN | apply below_drew1) | exact HB.out)) hb); clear HB; have HB := n0_; clear n0_; (try clear hb); (try clear hb2); (try clear hk); (try clear hi)) | ((with_reducible refine gate_callee (f := 5) rfl ?_); refine goesL_ (some 10) rfl rfl Tryz.func5 (by kernel_rfl) rfl #[.string (⟨#[97, 98, 47, 99]⟩ : ByteArray), .int .i64 0] rfl (by (try simp only [List.map_toArray, List.map_cons, List.map_nil]); first | done | rfl | (simp only [List.length_drop, List.length_take]; rfl)) ?_; (with_reducible refine (lex_Word.calls k (⟨#[97, 98, 47, 99]⟩ : ByteArray) 0 t116 t117 _ A2.out).mono ?_); rintro e w36 ⟨rfl, hb⟩; refine ⟨_, rfl, ?_⟩; have n0_ := Aside0.mk (below_step (by repeat (first | (with_reducible first | exact HB.out | apply below_alloc | apply pw_below_drewN | apply below_drew1) | exact HB.out)) hb); clear HB; have HB := n0_; clear n0_; (try clear hb); (try clear hb2); (try clear hk); (try clear hi)) | ((with_reducible refine gate_callee (f := 11) rfl ?_); refine goesL_ (some 13) rfl rfl Tryz.func11 (by kernel_rfl) rfl #[.string (⟨#[32, 37, 32, 97, 10, 32, 98]⟩ : ByteArray), .int .i64 0] rfl (by (try simp only [List.map_toArray, List.map_cons, List.map_nil]); first | done | rfl | (simp only [List.length_drop, List.length_take]; rfl)) ?_; (with_reducible refine (lex_Skip.calls k (⟨#[32, 37, 32, 97, 10, 32, 98]⟩ : ByteArray) 0 t118 _ A3.out).mono ?_); rintro e w37 ⟨rfl, hb⟩; refine ⟨_, rfl, ?_⟩; have n0_ := Aside0.mk (below_step (by repeat (first | (with_reducible first | exact HB.out | apply below_alloc | apply pw_below_drewN | apply below_drew1) | exact HB.out)) hb); clear HB; have HB := n0_; clear n0_; (try clear hb); (try clear hb2); (try clear hk); (try clear hi)) | (go_at_call 13; (with_reducible refine (lex_Name.calls (⟨#[97, 35, 50, 48, 98]⟩ : ByteArray) t119 _ A5.out).mono ?_); rintro e w38 ⟨rfl, hb⟩; have n0_ := Aside0.mk (below_step (by repeat (first | (with_reducible first | exact HB.out | apply below_alloc | apply pw_below_drewN | apply below_drew1) | exact HB.out)) hb); clear HB; have HB := n0_; clear n0_; (try clear hb); (try clear hb2); (try clear hk); (try clear hi)) | (go_at_call 15; (with_reducible refine (lex_Write.calls (⟨#[97, 32, 98]⟩ : ByteArray) t120 _ A7.out).mono ?_); rintro e w39 ⟨rfl, hb⟩; have n0_ := Aside0.mk (below_step (by repeat (first | (with_reducible first | exact HB.out | apply below_alloc | apply pw_below_drewN | apply below_drew1) | exact HB.out)) hb); clear HB; have HB := n0_; clear n0_; (try clear hb); (try clear hb2); (try clear hk); (try clear hi)))
          go_ret
          exact ⟨by first | rfl | (simp [errW_none, errW_some] <;> rfl) | (simp [*, errW_none, errW_some] <;> rfl), by repeat (first | (with_reducible first | exact HB.out | apply below_alloc | apply pw_below_drewN | apply below_drew1) | exact HB.out)⟩
      · rw [if_neg c8] at H
        have c8b0 : (t120.toList == ([97, 35, 50, 48, 98] : List UInt8)) = false := beq_eq_false_iff_ne.mpr c8
        have c8b1 : (t120.toList != ([97, 35, 50, 48, 98] : List UInt8)) = true := bne_iff_ne.mpr c8
        obtain rfl := Option.some.inj H
        go_enter Tryz.func4, Tryz.ntmps4
        go_wp2_with (first | ((with_reducible refine gate_callee (f := 7) rfl ?_); refine goesL_ (some 6) rfl rfl Tryz.func7 (by kernel_rfl) rfl #[.string (⟨#[45, 48, 55]⟩ : ByteArray)] rfl (by (try simp only [List.map_toArray, List.map_cons, List.map_nil]); first | done | rfl | (simp only [List.length_drop, List.length_take]; rfl)) ?_; (with_reducible refine (lex_Int.calls (⟨#[45, 48, 55]⟩ : ByteArray) t114 t115 _ ?side1 A1.out).mono ?_); (case side1 => exact GW.below (by repeat (first | (with_reducible first | exact HB.out | apply below_alloc | apply pw_below_drewN | apply below_drew1) | exact HB.out)) HG.out); rintro e w40 ⟨rfl, hb⟩; refine ⟨_, rfl, ?_⟩; have n0_ := Aside0.mk (below_step (by repeat (first | (with_reducible first | exact HB.out | apply below_alloc | apply pw_below_drewN | apply below_drew1) | exact HB.out)) hb); clear HB; have HB := n0_; clear n0_; (try clear hb); (try clear hb2); (try clear hk); (try clear hi)) | ((with_reducible refine gate_callee (f := 5) rfl ?_); refine goesL_ (some 10) rfl rfl Tryz.func5 (by kernel_rfl) rfl #[.string (⟨#[97, 98, 47, 99]⟩ : ByteArray), .int .i64 0] rfl (by (try simp only [List.map_toArray, List.map_cons, List.map_nil]); first | done | rfl | (simp only [List.length_drop, List.length_take]; rfl)) ?_; (with_reducible refine (lex_Word.calls k (⟨#[97, 98, 47, 99]⟩ : ByteArray) 0 t116 t117 _ A2.out).mono ?_); rintro e w41 ⟨rfl, hb⟩; refine ⟨_, rfl, ?_⟩; have n0_ := Aside0.mk (below_step (by repeat (first | (with_reducible first | exact HB.out | apply below_alloc | apply pw_below_drewN | apply below_drew1) | exact HB.out)) hb); clear HB; have HB := n0_; clear n0_; (try clear hb); (try clear hb2); (try clear hk); (try clear hi)) | ((with_reducible refine gate_callee (f := 11) rfl ?_); refine goesL_ (some 13) rfl rfl Tryz.func11 (by kernel_rfl) rfl #[.string (⟨#[32, 37, 32, 97, 10, 32, 98]⟩ : ByteArray), .int .i64 0] rfl (by (try simp only [List.map_toArray, List.map_cons, List.map_nil]); first | done | rfl | (simp only [List.length_drop, List.length_take]; rfl)) ?_; (with_reducible refine (lex_Skip.calls k (⟨#[32, 37, 32, 97, 10, 32, 98]⟩ : ByteArray) 0 t118 _ A3.out).mono ?_); rintro e w42 ⟨rfl, hb⟩; refine ⟨_, rfl, ?_⟩; have n0_ := Aside0.mk (below_step (by repeat (first | (with_reducible first | exact HB.out | apply below_alloc | apply pw_below_drewN | apply below_drew1) | exact HB.out)) hb); clear HB; have HB := n0_; clear n0_; (try clear hb); (try clear hb2); (try clear hk); (try clear hi)) | (go_at_call 13; (with_reducible refine (lex_Name.calls (⟨#[97, 35, 50, 48, 98]⟩ : ByteArray) t119 _ A5.out).mono ?_); rintro e w43 ⟨rfl, hb⟩; have n0_ := Aside0.mk (below_step (by repeat (first | (with_reducible first | exact HB.out | apply below_alloc | apply pw_below_drewN | apply below_drew1) | exact HB.out)) hb); clear HB; have HB := n0_; clear n0_; (try clear hb); (try clear hb2); (try clear hk); (try clear hi)) | (go_at_call 15; (with_reducible refine (lex_Write.calls (⟨#[97, 32, 98]⟩ : ByteArray) t120 _ A7.out).mono ?_); rintro e w44 ⟨rfl, hb⟩; have n0_ := Aside0.mk (below_step (by repeat (first | (with_reducible first | exact HB.out | apply below_alloc | apply pw_below_drewN | apply below_drew1) | exact HB.out)) hb); clear HB; have HB := n0_; clear n0_; (try clear hb); (try clear hb2); (try clear hk); (try clear hi)))
        go_ret
        exact ⟨by first | rfl | (simp [errW_none, errW_some] <;> rfl) | (simp [*, errW_none, errW_some] <;> rfl), by repeat (first | (with_reducible first | exact HB.out | apply below_alloc | apply pw_below_drewN | apply below_drew1) | exact HB.out)⟩
    · rw [if_neg c6] at H
      have c6b0 : (t119.toList == ([97, 32, 98] : List UInt8)) = false := beq_eq_false_iff_ne.mpr c6
      have c6b1 : (t119.toList != ([97, 32, 98] : List UInt8)) = true := bne_iff_ne.mpr c6
      obtain rfl := Option.some.inj H
      go_enter Tryz.func4, Tryz.ntmps4
      go_wp2_with (first | ((with_reducible refine gate_callee (f := 7) rfl ?_); refine goesL_ (some 6) rfl rfl Tryz.func7 (by kernel_rfl) rfl #[.string (⟨#[45, 48, 55]⟩ : ByteArray)] rfl (by (try simp only [List.map_toArray, List.map_cons, List.map_nil]); first | done | rfl | (simp only [List.length_drop, List.length_take]; rfl)) ?_; (with_reducible refine (lex_Int.calls (⟨#[45, 48, 55]⟩ : ByteArray) t114 t115 _ ?side1 A1.out).mono ?_); (case side1 => exact GW.below (by repeat (first | (with_reducible first | exact HB.out | apply below_alloc | apply pw_below_drewN | apply below_drew1) | exact HB.out)) HG.out); rintro e w45 ⟨rfl, hb⟩; refine ⟨_, rfl, ?_⟩; have n0_ := Aside0.mk (below_step (by repeat (first | (with_reducible first | exact HB.out | apply below_alloc | apply pw_below_drewN | apply below_drew1) | exact HB.out)) hb); clear HB; have HB := n0_; clear n0_; (try clear hb); (try clear hb2); (try clear hk); (try clear hi)) | ((with_reducible refine gate_callee (f := 5) rfl ?_); refine goesL_ (some 10) rfl rfl Tryz.func5 (by kernel_rfl) rfl #[.string (⟨#[97, 98, 47, 99]⟩ : ByteArray), .int .i64 0] rfl (by (try simp only [List.map_toArray, List.map_cons, List.map_nil]); first | done | rfl | (simp only [List.length_drop, List.length_take]; rfl)) ?_; (with_reducible refine (lex_Word.calls k (⟨#[97, 98, 47, 99]⟩ : ByteArray) 0 t116 t117 _ A2.out).mono ?_); rintro e w46 ⟨rfl, hb⟩; refine ⟨_, rfl, ?_⟩; have n0_ := Aside0.mk (below_step (by repeat (first | (with_reducible first | exact HB.out | apply below_alloc | apply pw_below_drewN | apply below_drew1) | exact HB.out)) hb); clear HB; have HB := n0_; clear n0_; (try clear hb); (try clear hb2); (try clear hk); (try clear hi)) | ((with_reducible refine gate_callee (f := 11) rfl ?_); refine goesL_ (some 13) rfl rfl Tryz.func11 (by kernel_rfl) rfl #[.string (⟨#[32, 37, 32, 97, 10, 32, 98]⟩ : ByteArray), .int .i64 0] rfl (by (try simp only [List.map_toArray, List.map_cons, List.map_nil]); first | done | rfl | (simp only [List.length_drop, List.length_take]; rfl)) ?_; (with_reducible refine (lex_Skip.calls k (⟨#[32, 37, 32, 97, 10, 32, 98]⟩ : ByteArray) 0 t118 _ A3.out).mono ?_); rintro e w47 ⟨rfl, hb⟩; refine ⟨_, rfl, ?_⟩; have n0_ := Aside0.mk (below_step (by repeat (first | (with_reducible first | exact HB.out | apply below_alloc | apply pw_below_drewN | apply below_drew1) | exact HB.out)) hb); clear HB; have HB := n0_; clear n0_; (try clear hb); (try clear hb2); (try clear hk); (try clear hi)) | (go_at_call 13; (with_reducible refine (lex_Name.calls (⟨#[97, 35, 50, 48, 98]⟩ : ByteArray) t119 _ A5.out).mono ?_); rintro e w48 ⟨rfl, hb⟩; have n0_ := Aside0.mk (below_step (by repeat (first | (with_reducible first | exact HB.out | apply below_alloc | apply pw_below_drewN | apply below_drew1) | exact HB.out)) hb); clear HB; have HB := n0_; clear n0_; (try clear hb); (try clear hb2); (try clear hk); (try clear hi)))
      go_ret
      exact ⟨by first | rfl | (simp [errW_none, errW_some] <;> rfl) | (simp [*, errW_none, errW_some] <;> rfl), by repeat (first | (with_reducible first | exact HB.out | apply below_alloc | apply pw_below_drewN | apply below_drew1) | exact HB.out)⟩
  · rw [if_neg c4] at H
    have c4b0 : (t118 == 6) = false := beq_eq_false_iff_ne.mpr c4
    have c4b1 : (t118 != 6) = true := bne_iff_ne.mpr c4
    obtain rfl := Option.some.inj H
    go_enter Tryz.func4, Tryz.ntmps4
    go_wp2_with (first | ((with_reducible refine gate_callee (f := 7) rfl ?_); refine goesL_ (some 6) rfl rfl Tryz.func7 (by kernel_rfl) rfl #[.string (⟨#[45, 48, 55]⟩ : ByteArray)] rfl (by (try simp only [List.map_toArray, List.map_cons, List.map_nil]); first | done | rfl | (simp only [List.length_drop, List.length_take]; rfl)) ?_; (with_reducible refine (lex_Int.calls (⟨#[45, 48, 55]⟩ : ByteArray) t114 t115 _ ?side1 A1.out).mono ?_); (case side1 => exact GW.below (by repeat (first | (with_reducible first | exact HB.out | apply below_alloc | apply pw_below_drewN | apply below_drew1) | exact HB.out)) HG.out); rintro e w49 ⟨rfl, hb⟩; refine ⟨_, rfl, ?_⟩; have n0_ := Aside0.mk (below_step (by repeat (first | (with_reducible first | exact HB.out | apply below_alloc | apply pw_below_drewN | apply below_drew1) | exact HB.out)) hb); clear HB; have HB := n0_; clear n0_; (try clear hb); (try clear hb2); (try clear hk); (try clear hi)) | ((with_reducible refine gate_callee (f := 5) rfl ?_); refine goesL_ (some 10) rfl rfl Tryz.func5 (by kernel_rfl) rfl #[.string (⟨#[97, 98, 47, 99]⟩ : ByteArray), .int .i64 0] rfl (by (try simp only [List.map_toArray, List.map_cons, List.map_nil]); first | done | rfl | (simp only [List.length_drop, List.length_take]; rfl)) ?_; (with_reducible refine (lex_Word.calls k (⟨#[97, 98, 47, 99]⟩ : ByteArray) 0 t116 t117 _ A2.out).mono ?_); rintro e w50 ⟨rfl, hb⟩; refine ⟨_, rfl, ?_⟩; have n0_ := Aside0.mk (below_step (by repeat (first | (with_reducible first | exact HB.out | apply below_alloc | apply pw_below_drewN | apply below_drew1) | exact HB.out)) hb); clear HB; have HB := n0_; clear n0_; (try clear hb); (try clear hb2); (try clear hk); (try clear hi)) | ((with_reducible refine gate_callee (f := 11) rfl ?_); refine goesL_ (some 13) rfl rfl Tryz.func11 (by kernel_rfl) rfl #[.string (⟨#[32, 37, 32, 97, 10, 32, 98]⟩ : ByteArray), .int .i64 0] rfl (by (try simp only [List.map_toArray, List.map_cons, List.map_nil]); first | done | rfl | (simp only [List.length_drop, List.length_take]; rfl)) ?_; (with_reducible refine (lex_Skip.calls k (⟨#[32, 37, 32, 97, 10, 32, 98]⟩ : ByteArray) 0 t118 _ A3.out).mono ?_); rintro e w51 ⟨rfl, hb⟩; refine ⟨_, rfl, ?_⟩; have n0_ := Aside0.mk (below_step (by repeat (first | (with_reducible first | exact HB.out | apply below_alloc | apply pw_below_drewN | apply below_drew1) | exact HB.out)) hb); clear HB; have HB := n0_; clear n0_; (try clear hb); (try clear hb2); (try clear hk); (try clear hi)))
    go_ret
    exact ⟨by first | rfl | (simp [errW_none, errW_some] <;> rfl) | (simp [*, errW_none, errW_some] <;> rfl), by repeat (first | (with_reducible first | exact HB.out | apply below_alloc | apply pw_below_drewN | apply below_drew1) | exact HB.out)⟩
end Go.Proofs.YtaolcbklpdodaaaGreatDoor.M
end
section
/- Laid by this session's program hbprint.py out of the translation: the function hornbook/hornbookref03.Word and its contract. -/
namespace Go.Proofs.YtaolcbklpdodaaaGreatDoor.M
open Go.RowKit Go.Proofs.YtaolcbklpdodaaaGreatDoorW.PrintWords Go.Proofs.YtaolcbklpdodaaaGreatDoorW.PrintLast Go.Proofs.YtaolcbklpdodaaaGreatDoorW.PrintMore
attribute [local go_sem] max2_int min2_int max_two min_two max_three min_three max_four min_four
set_option linter.unusedVariables false
set_option linter.unusedSimpArgs false
def hornbookref03_Word.l0 : Nat → ByteArray → Int → Int → Option (ByteArray × Int)
  | 0, _, _, _ => none
  | k + 1, x0, x6, x7 => if x7 < (x0.size : Int) then (if 0 ≤ x7 then ((hornbookref03_Class.f k (wrap64 (bt x0 x7))).bind fun t124 => (if t124 = 0 then (hornbookref03_Word.l0 k x0 x6 (wrap64 (x7 + 1))) else (if 0 ≤ x6 then (if x6 ≤ x7 then (if x7 ≤ (x0.size : Int) then (some (x0.extract (x6 : Int).toNat (x7 : Int).toNat, x7)) else (none)) else (none)) else (none)))) else (none)) else (if 0 ≤ x6 then (if x6 ≤ x7 then (if x7 ≤ (x0.size : Int) then (some (x0.extract (x6 : Int).toNat (x7 : Int).toNat, x7)) else (none)) else (none)) else (none))
def hornbookref03_Word.f (k : Nat) (a0 : ByteArray) (a1 : Int) : Option (ByteArray × Int) := (hornbookref03_place.f a0 a1).bind fun t123 => (hornbookref03_Word.l0 k a0 t123 t123)
set_option maxHeartbeats 8000000 in
set_option maxRecDepth 100000 in
theorem hornbookref03_Word.calls (k : Nat) (a0 : ByteArray) (a1 : Int) (r1 : ByteArray) (r2 : Int) (w : World) (h : hornbookref03_Word.f k a0 a1 = some (r1, r2)) :
    Calls Tryz.prog 6 #[.string a0, .int .i64 a1] w fun e w' => e = .returned (.tuple #[.string r1, .int .i64 r2]) ∧ Below w.heap.size w w' := by
  have HB := Aside0.mk (Below.refl w.heap.size w)
  have H : ((hornbookref03_place.f a0 a1).bind fun t123 => (hornbookref03_Word.l0 k a0 t123 t123)) = some (r1, r2) := h
  clear h
  replace H := Option.bind_eq_some_iff.mp H
  obtain ⟨t123, A30, H⟩ := H
  replace H : (hornbookref03_Word.l0 k a0 t123 t123) = some (r1, r2) := H
  have A3 := Aside0.mk A30
  clear A30
  have H' := Aside0.mk H
  clear H
  go_enter Tryz.func6, Tryz.ntmps6
  go_wp2_with (first | ((with_reducible refine gate_callee (f := 18) rfl ?_); refine goesL_ (some 10) rfl rfl Tryz.func18 (by kernel_rfl) rfl #[.string a0, .int .i64 a1] rfl (by (try simp only [List.map_toArray, List.map_cons, List.map_nil]); first | done | rfl | (simp only [List.length_drop, List.length_take]; rfl)) ?_; (with_reducible refine (hornbookref03_place.calls a0 a1 t123 _ A3.out).mono ?_); rintro e w4 ⟨rfl, hb⟩; refine ⟨_, rfl, ?_⟩; have n0_ := Aside0.mk (below_step (by repeat (first | (with_reducible first | exact HB.out | apply below_alloc | apply pw_below_drewN | apply below_drew1) | exact HB.out)) hb); clear HB; have HB := n0_; clear n0_; (try clear hb); (try clear hb2); (try clear hk); (try clear hi)))
  go_loopg [7] k (fun kq v7 w' => ∃ (x7_1 : Int), v7 = .int .i64 x7_1 ∧ Aside0 (hornbookref03_Word.l0 kq a0 t123 x7_1 = some (r1, r2)) ∧ Aside0 (kq ≤ k) ∧ Aside0 (Below w.heap.size w w'))
  case atStart => exact ⟨(t123), (by first | rfl | (simp; done) | (simp [*]; done)), H', ⟨Nat.le_refl _⟩, ⟨by repeat (first | (with_reducible first | exact HB.out | apply below_alloc | apply pw_below_drewN | apply below_drew1) | exact HB.out)⟩⟩
  case round =>
    clear H'
    try clear c1
    try clear p2
    obtain ⟨x7_1, rfl, HA, HK1, HB⟩ := hrel
    cases gk with
    | zero => exact absurd HA.out (by simp [hornbookref03_Word.l0])
    | succ k1 =>
      have H := HA.out
      clear HA
      simp only [hornbookref03_Word.l0] at H
      by_cases c5 : x7_1 < (a0.size : Int)
      · rw [if_pos c5] at H
        have c5b0 : decide (x7_1 < (a0.size : Int)) = true := decide_eq_true c5
        clear c5
        by_cases c6 : 0 ≤ x7_1
        · rw [if_pos c6] at H
          have c6b0 : decide (0 ≤ x7_1) = true := decide_eq_true c6
          clear c6
          replace H := Option.bind_eq_some_iff.mp H
          obtain ⟨t124, A80, H⟩ := H
          replace H : (if t124 = 0 then (hornbookref03_Word.l0 k1 a0 t123 (wrap64 (x7_1 + 1))) else (if 0 ≤ t123 then (if t123 ≤ x7_1 then (if x7_1 ≤ (a0.size : Int) then (some (a0.extract (t123 : Int).toNat (x7_1 : Int).toNat, x7_1)) else (none)) else (none)) else (none))) = some (r1, r2) := H
          have A8 := Aside0.mk A80
          clear A80
          by_cases c9 : t124 = 0
          · rw [if_pos c9] at H
            have c9b0 : (t124 == 0) = true := beq_iff_eq.mpr c9
            have c9b1 : (t124 != 0) = false := bne_eq_false_iff_eq.mpr c9
            clear c9
            have H' := Aside0.mk H
            clear H
            have p7 : 0 ≤ (x7_1 : Int) := of_decide_eq_true (by first | (with_reducible assumption) | assumption)
            have q7 : x7_1 < (a0.size : Int) := of_decide_eq_true (by first | (with_reducible assumption) | assumption)
            have hx7 := bt_at a0 x7_1
            replace p7 := eq_true p7
            replace q7 := eq_true q7
            go_wp2_with (first | (go_at_call 10; (with_reducible refine (hornbookref03_Class.calls k1 (wrap64 (bt a0 x7_1)) t124 _ A8.out).mono ?_); rintro e w' ⟨rfl, ⟨nd, rfl⟩⟩))
            go_roundg k1
            case measure => have := HK1.out; omega
            case rel => exact ⟨(wrap64 (x7_1 + 1)), (by first | rfl | (simp; done) | (simp [*]; done)), H', ⟨by have := HK1.out; omega⟩, ⟨by repeat (first | (with_reducible first | exact HB.out | apply below_alloc | apply pw_below_drewN | apply below_drew1) | exact HB.out)⟩⟩
          · rw [if_neg c9] at H
            have c9b0 : (t124 == 0) = false := beq_eq_false_iff_ne.mpr c9
            have c9b1 : (t124 != 0) = true := bne_iff_ne.mpr c9
            by_cases c10 : 0 ≤ t123
            · rw [if_pos c10] at H
              have c10b0 := eq_true c10
              have c10b1 : decide (0 ≤ t123) = true := decide_eq_true c10
              clear c10
              by_cases c11 : t123 ≤ x7_1
              · rw [if_pos c11] at H
                have c11b0 := eq_true c11
                have c11b1 : decide (t123 ≤ x7_1) = true := decide_eq_true c11
                clear c11
                by_cases c12 : x7_1 ≤ (a0.size : Int)
                · rw [if_pos c12] at H
                  have c12b0 := eq_true c12
                  have c12b1 : decide (x7_1 ≤ (a0.size : Int)) = true := decide_eq_true c12
                  clear c12
                  simp only [Option.some.injEq, Prod.mk.injEq] at H
                  obtain ⟨rfl, rfl⟩ := H
                  have p7 : 0 ≤ (x7_1 : Int) := of_decide_eq_true (by first | (with_reducible assumption) | assumption)
                  have q7 : x7_1 < (a0.size : Int) := of_decide_eq_true (by first | (with_reducible assumption) | assumption)
                  have hx7 := bt_at a0 x7_1
                  replace p7 := eq_true p7
                  replace q7 := eq_true q7
                  go_wp2_with (first | (go_at_call 10; (with_reducible refine (hornbookref03_Class.calls k1 (wrap64 (bt a0 x7_1)) t124 _ A8.out).mono ?_); rintro e w' ⟨rfl, ⟨nd, rfl⟩⟩))
                  go_ret2
                  exact ⟨by first | rfl | (simp [errW_none, errW_some] <;> rfl) | (simp [*, errW_none, errW_some] <;> rfl), by repeat (first | (with_reducible first | exact HB.out | apply below_alloc | apply pw_below_drewN | apply below_drew1) | exact HB.out)⟩
                · rw [if_neg c12] at H
                  exact absurd H (by simp)
              · rw [if_neg c11] at H
                exact absurd H (by simp)
            · rw [if_neg c10] at H
              exact absurd H (by simp)
        · rw [if_neg c6] at H
          exact absurd H (by simp)
      · rw [if_neg c5] at H
        have c5b0 : decide (x7_1 < (a0.size : Int)) = false := decide_eq_false c5
        clear c5
        by_cases c13 : 0 ≤ t123
        · rw [if_pos c13] at H
          have c13b0 := eq_true c13
          have c13b1 : decide (0 ≤ t123) = true := decide_eq_true c13
          clear c13
          by_cases c14 : t123 ≤ x7_1
          · rw [if_pos c14] at H
            have c14b0 := eq_true c14
            have c14b1 : decide (t123 ≤ x7_1) = true := decide_eq_true c14
            clear c14
            by_cases c15 : x7_1 ≤ (a0.size : Int)
            · rw [if_pos c15] at H
              have c15b0 := eq_true c15
              have c15b1 : decide (x7_1 ≤ (a0.size : Int)) = true := decide_eq_true c15
              clear c15
              simp only [Option.some.injEq, Prod.mk.injEq] at H
              obtain ⟨rfl, rfl⟩ := H
              go_wp2
              go_ret2
              exact ⟨by first | rfl | (simp [errW_none, errW_some] <;> rfl) | (simp [*, errW_none, errW_some] <;> rfl), by repeat (first | (with_reducible first | exact HB.out | apply below_alloc | apply pw_below_drewN | apply below_drew1) | exact HB.out)⟩
            · rw [if_neg c15] at H
              exact absurd H (by simp)
          · rw [if_neg c14] at H
            exact absurd H (by simp)
        · rw [if_neg c13] at H
          exact absurd H (by simp)
end Go.Proofs.YtaolcbklpdodaaaGreatDoor.M
end
section
/- Laid by this session's program hbprint.py out of the translation: the function hornbook/hornbookref03.Int and its contract. -/
namespace Go.Proofs.YtaolcbklpdodaaaGreatDoor.M
open Go.RowKit Go.Proofs.YtaolcbklpdodaaaGreatDoorW.PrintWords Go.Proofs.YtaolcbklpdodaaaGreatDoorW.PrintLast Go.Proofs.YtaolcbklpdodaaaGreatDoorW.PrintMore
attribute [local go_sem] max2_int min2_int max_two min_two max_three min_three max_four min_four
set_option linter.unusedVariables false
set_option linter.unusedSimpArgs false
mutual
def hornbookref03_Int.j0 : Nat → ByteArray → Int → Bool → Option (Int × Int)
  | 0, _, _, _ => none
  | k + 1, x0, x4, x19 => if x19 = true then (hornbookref03_Int.j1 k x0 1) else (hornbookref03_Int.j1 k x0 x4)
def hornbookref03_Int.j1 : Nat → ByteArray → Int → Option (Int × Int)
  | 0, _, _ => none
  | k + 1, x0, x4 => if x4 = (x0.size : Int) then (some (0, 3)) else (hornbookref03_Int.l0 k x0 0 x4)
def hornbookref03_Int.l0 : Nat → ByteArray → Int → Int → Option (Int × Int)
  | 0, _, _, _ => none
  | k + 1, x0, x5, x6 => if x6 < (x0.size : Int) then (if 0 ≤ x6 then (if (bt x0 x6) < 48 then (some (0, 3)) else (if (bt x0 x6) > 57 then (some (0, 3)) else (hornbookref03_Int.l0 k x0 (mn (wrap64 ((wrap64 (x5 * 10)) + (((bt x0 x6) - 48) % 256))) 1099511627776) (wrap64 (x6 + 1))))) else (none)) else (if 0 < (x0.size : Int) then (if (bt x0 0) = 45 then (if (wrap64 (-x5)) < (-2147483648) then (some (0, 4)) else (if (wrap64 (-x5)) > 2147483647 then (some (0, 4)) else (some (wrap64 (-x5), 0)))) else (if x5 < (-2147483648) then (some (0, 4)) else (if x5 > 2147483647 then (some (0, 4)) else (some (x5, 0))))) else (none))
end
def hornbookref03_Int.f (k : Nat) (a0 : ByteArray) : Option (Int × Int) := if (a0.size : Int) > 0 then (if 0 < (a0.size : Int) then (if (bt a0 0) = 43 then (hornbookref03_Int.j0 k a0 0 true) else (hornbookref03_Int.j0 k a0 0 ((bt a0 0) == 45))) else (none)) else (hornbookref03_Int.j0 k a0 0 false)
set_option maxHeartbeats 8000000 in
set_option maxRecDepth 100000 in
theorem hornbookref03_Int.calls (k : Nat) (a0 : ByteArray) (r1 : Int) (r2 : Int) (w : World) (h : hornbookref03_Int.f k a0 = some (r1, r2)) :
    Calls Tryz.prog 8 #[.string a0] w fun e w' => e = .returned (.tuple #[.int .i64 r1, .int .i64 r2]) ∧ Below w.heap.size w w' := by
  have HB := Aside0.mk (Below.refl w.heap.size w)
  have H : (if (a0.size : Int) > 0 then (if 0 < (a0.size : Int) then (if (bt a0 0) = 43 then (hornbookref03_Int.j0 k a0 0 true) else (hornbookref03_Int.j0 k a0 0 ((bt a0 0) == 45))) else (none)) else (hornbookref03_Int.j0 k a0 0 false)) = some (r1, r2) := h
  clear h
  have HC2 := Aside0.mk H
  clear H
  go_enter Tryz.func8, Tryz.ntmps8
  go_upto_region 2 with (fail)
  go_cut [19] (fun v19 wc => ∃ (kq : Nat) (x19_1 : Bool), v19 = .bool x19_1 ∧ Aside0 (hornbookref03_Int.j0 kq a0 0 x19_1 = some (r1, r2)) ∧ Aside0 (kq ≤ k) ∧ Aside0 (Below w.heap.size w wc))
  case first =>
    have H := HC2.out
    clear HC2
    by_cases c3 : (a0.size : Int) > 0
    · rw [if_pos c3] at H
      have c3b0 : decide (0 < (a0.size : Int)) = true := decide_eq_true c3
      have c3b1 : decide (0 < a0.size) = true := decide_eq_true (by omega)
      clear c3
      (first | rw [c3b0] | (simp only [i64_w, i32_w]; rw [c3b0]) | skip)
      by_cases c4 : 0 < (a0.size : Int)
      · rw [if_pos c4] at H
        have c4b0 : decide (0 < (a0.size : Int)) = true := decide_eq_true c4
        have c4b1 : decide (0 < a0.size) = true := decide_eq_true (by omega)
        clear c4
        by_cases c6 : (bt a0 0) = 43
        · rw [if_pos c6] at H
          have c6b0 : ((bt a0 0) == 43) = true := beq_iff_eq.mpr c6
          have c6b1 : ((bt a0 0) != 43) = false := bne_eq_false_iff_eq.mpr c6
          clear c6
          have H' := Aside0.mk H
          clear H
          have p5 : 0 ≤ (0 : Int) := (by omega)
          have q5 : 0 < a0.size := (by have : (0 : Int) < (a0.size : Int) := of_decide_eq_true (by first | (with_reducible assumption) | assumption); omega)
          have hx5 : ∀ h : 0 < a0.size, ((a0[0]'h).toNat : Int) = bt a0 0 := bt_at a0 0
          clear p5
          have qi5 : (0 < (a0.size : Int)) = True := eq_true (of_decide_eq_true (by first | (with_reducible assumption) | assumption))
          replace q5 := eq_true q5
          go_wp2
          go_meet
          case rel => exact ⟨_, (true), (by first | rfl | (simp; done) | (simp [*]; done)), H', ⟨by first | omega | exact Nat.le_refl _⟩, ⟨by repeat (first | (with_reducible first | exact HB.out | apply below_alloc | apply pw_below_drewN | apply below_drew1) | exact HB.out)⟩⟩
        · rw [if_neg c6] at H
          have c6b0 : ((bt a0 0) == 43) = false := beq_eq_false_iff_ne.mpr c6
          have c6b1 : ((bt a0 0) != 43) = true := bne_iff_ne.mpr c6
          have H' := Aside0.mk H
          clear H
          have p5 : 0 ≤ (0 : Int) := (by omega)
          have q5 : 0 < a0.size := (by have : (0 : Int) < (a0.size : Int) := of_decide_eq_true (by first | (with_reducible assumption) | assumption); omega)
          have hx5 : ∀ h : 0 < a0.size, ((a0[0]'h).toNat : Int) = bt a0 0 := bt_at a0 0
          clear p5
          have qi5 : (0 < (a0.size : Int)) = True := eq_true (of_decide_eq_true (by first | (with_reducible assumption) | assumption))
          replace q5 := eq_true q5
          have p7 : 0 ≤ (0 : Int) := (by omega)
          have q7 : 0 < a0.size := (by have : (0 : Int) < (a0.size : Int) := of_decide_eq_true (by first | (with_reducible assumption) | assumption); omega)
          have hx7 : ∀ h : 0 < a0.size, ((a0[0]'h).toNat : Int) = bt a0 0 := bt_at a0 0
          clear p7
          have qi7 : (0 < (a0.size : Int)) = True := eq_true (of_decide_eq_true (by first | (with_reducible assumption) | assumption))
          replace q7 := eq_true q7
          go_wp2
          go_meet
          case rel => exact ⟨_, (((bt a0 0) == 45)), (by first | rfl | (simp; done) | (simp [*]; done)), H', ⟨by first | omega | exact Nat.le_refl _⟩, ⟨by repeat (first | (with_reducible first | exact HB.out | apply below_alloc | apply pw_below_drewN | apply below_drew1) | exact HB.out)⟩⟩
      · rw [if_neg c4] at H
        exact absurd H (by simp)
    · rw [if_neg c3] at H
      have c3b0 : decide (0 < (a0.size : Int)) = false := decide_eq_false c3
      have c3b1 : decide (0 < a0.size) = false := decide_eq_false (by omega)
      clear c3
      (first | rw [c3b0] | (simp only [i64_w, i32_w]; rw [c3b0]) | skip)
      have H' := Aside0.mk H
      clear H
      go_wp2
      go_meet
      case rel => exact ⟨_, (false), (by first | rfl | (simp; done) | (simp [*]; done)), H', ⟨by first | omega | exact Nat.le_refl _⟩, ⟨by repeat (first | (with_reducible first | exact HB.out | apply below_alloc | apply pw_below_drewN | apply below_drew1) | exact HB.out)⟩⟩
  case rest =>
    clear HC2
    try clear p2
    try clear c3
    try clear c3b0
    try clear c3b1
    try clear c4
    try clear c4b0
    try clear c4b1
    try clear p5
    try clear q5
    try clear hx5
    try clear qi5
    try clear c6
    try clear c6b0
    try clear c6b1
    try clear p7
    try clear q7
    try clear hx7
    try clear qi7
    try clear p5
    try clear p7
    try clear q5
    try clear q7
    obtain ⟨kq, x19_1, rfl, HA, HJ1, HB⟩ := hcut
    cases kq with
    | zero => exact absurd HA.out (by simp [hornbookref03_Int.j0])
    | succ kj1 =>
      have H := HA.out
      clear HA
      simp only [hornbookref03_Int.j0] at H
      have HC8 := Aside0.mk H
      clear H
      go_upto_if 19 with (fail)
      go_cut [4] (fun v4 wc => ∃ (kq : Nat) (x4_7 : Int), v4 = .int .i64 x4_7 ∧ Aside0 (hornbookref03_Int.j1 kq a0 x4_7 = some (r1, r2)) ∧ Aside0 (kq ≤ kj1) ∧ Aside0 (Below w.heap.size w wc))
      case first =>
        have H := HC8.out
        clear HC8
        by_cases c9 : x19_1 = true
        · subst c9
          have H1 : (hornbookref03_Int.j1 kj1 a0 1) = some (r1, r2) := by rw [if_pos rfl] at H; exact H
          clear H
          have H := H1
          clear H1
          have H' := Aside0.mk H
          clear H
          go_wp2
          go_meet
          case rel => exact ⟨_, (1), (by first | rfl | (simp; done) | (simp [*]; done)), H', ⟨by have := HJ1.out; first | omega | exact Nat.le_refl _⟩, ⟨by repeat (first | (with_reducible first | exact HB.out | apply below_alloc | apply pw_below_drewN | apply below_drew1) | exact HB.out)⟩⟩
        · replace c9 := Bool.eq_false_iff.mpr c9
          subst c9
          have H1 : (hornbookref03_Int.j1 kj1 a0 0) = some (r1, r2) := by rw [if_neg (show ¬ (false = true) by decide)] at H; exact H
          clear H
          have H := H1
          clear H1
          have H' := Aside0.mk H
          clear H
          go_wp2
          go_meet
          case rel => exact ⟨_, (0), (by first | rfl | (simp; done) | (simp [*]; done)), H', ⟨by have := HJ1.out; first | omega | exact Nat.le_refl _⟩, ⟨by repeat (first | (with_reducible first | exact HB.out | apply below_alloc | apply pw_below_drewN | apply below_drew1) | exact HB.out)⟩⟩
      case rest =>
        clear HC8
        try clear p2
        try clear c3
        try clear c3b0
        try clear c3b1
        try clear c4
        try clear c4b0
        try clear c4b1
        try clear p5
        try clear q5
        try clear hx5
        try clear qi5
        try clear c6
        try clear c6b0
        try clear c6b1
        try clear p7
        try clear q7
        try clear hx7
        try clear qi7
        try clear c8
        try clear c9
        try clear p2
        try clear p5
        try clear p7
        try clear q5
        try clear q7
        obtain ⟨kq, x4_7, rfl, HA, HJ7, HB⟩ := hcut
        cases kq with
        | zero => exact absurd HA.out (by simp [hornbookref03_Int.j1])
        | succ kj7 =>
          have H := HA.out
          clear HA
          simp only [hornbookref03_Int.j1] at H
          by_cases c10 : x4_7 = (a0.size : Int)
          · rw [if_pos c10] at H
            have c10b0 : (x4_7 == (a0.size : Int)) = true := beq_iff_eq.mpr c10
            have c10b1 : (x4_7 != (a0.size : Int)) = false := bne_eq_false_iff_eq.mpr c10
            clear c10
            simp only [Option.some.injEq, Prod.mk.injEq] at H
            obtain ⟨rfl, rfl⟩ := H
            go_wp2
            go_ret2
            exact ⟨by first | rfl | (simp [errW_none, errW_some] <;> rfl) | (simp [*, errW_none, errW_some] <;> rfl), by repeat (first | (with_reducible first | exact HB.out | apply below_alloc | apply pw_below_drewN | apply below_drew1) | exact HB.out)⟩
          · rw [if_neg c10] at H
            have c10b0 : (x4_7 == (a0.size : Int)) = false := beq_eq_false_iff_ne.mpr c10
            have c10b1 : (x4_7 != (a0.size : Int)) = true := bne_iff_ne.mpr c10
            have H' := Aside0.mk H
            clear H
            go_wp2
            go_loopg [5, 6] kj7 (fun kq v5 v6 w' => ∃ (x5_3 : Int) (x6_3 : Int), v5 = .int .i64 x5_3 ∧ v6 = .int .i64 x6_3 ∧ Aside0 (hornbookref03_Int.l0 kq a0 x5_3 x6_3 = some (r1, r2)) ∧ Aside0 (kq ≤ kj7) ∧ Aside0 (Below w.heap.size w w'))
            case atStart => exact ⟨(0), (x4_7), (by first | rfl | (simp; done) | (simp [*]; done)), (by first | rfl | (simp; done) | (simp [*]; done)), H', ⟨Nat.le_refl _⟩, ⟨by repeat (first | (with_reducible first | exact HB.out | apply below_alloc | apply pw_below_drewN | apply below_drew1) | exact HB.out)⟩⟩
            case round =>
              clear H'
              try clear c1
              try clear p2
              try clear c3
              try clear c3b0
              try clear c3b1
              try clear c4
              try clear c4b0
              try clear c4b1
              try clear p5
              try clear q5
              try clear hx5
              try clear qi5
              try clear c6
              try clear c6b0
              try clear c6b1
              try clear p7
              try clear q7
              try clear hx7
              try clear qi7
              try clear c8
              try clear c9
              try clear c10
              try clear c10b0
              try clear c10b1
              try clear p2
              try clear p5
              try clear p7
              try clear q5
              try clear q7
              obtain ⟨x5_3, x6_3, rfl, rfl, HA, HK3, HB⟩ := hrel
              cases gk with
              | zero => exact absurd HA.out (by simp [hornbookref03_Int.l0])
              | succ k3 =>
                have H := HA.out
                clear HA
                simp only [hornbookref03_Int.l0] at H
                by_cases c11 : x6_3 < (a0.size : Int)
                · rw [if_pos c11] at H
                  have c11b0 : decide (x6_3 < (a0.size : Int)) = true := decide_eq_true c11
                  clear c11
                  by_cases c12 : 0 ≤ x6_3
                  · rw [if_pos c12] at H
                    have c12b0 : decide (0 ≤ x6_3) = true := decide_eq_true c12
                    clear c12
                    by_cases c14 : (bt a0 x6_3) < 48
                    · rw [if_pos c14] at H
                      have c14b0 : decide ((bt a0 x6_3) < 48) = true := decide_eq_true c14
                      clear c14
                      simp only [Option.some.injEq, Prod.mk.injEq] at H
                      obtain ⟨rfl, rfl⟩ := H
                      have p13 : 0 ≤ (x6_3 : Int) := of_decide_eq_true (by first | (with_reducible assumption) | assumption)
                      have q13 : x6_3 < (a0.size : Int) := of_decide_eq_true (by first | (with_reducible assumption) | assumption)
                      have hx13 := bt_at a0 x6_3
                      replace p13 := eq_true p13
                      replace q13 := eq_true q13
                      go_wp2
                      go_ret2
                      exact ⟨by first | rfl | (simp [errW_none, errW_some] <;> rfl) | (simp [*, errW_none, errW_some] <;> rfl), by repeat (first | (with_reducible first | exact HB.out | apply below_alloc | apply pw_below_drewN | apply below_drew1) | exact HB.out)⟩
                    · rw [if_neg c14] at H
                      have c14b0 : decide ((bt a0 x6_3) < 48) = false := decide_eq_false c14
                      clear c14
                      by_cases c16 : (bt a0 x6_3) > 57
                      · rw [if_pos c16] at H
                        have c16b0 : decide (57 < (bt a0 x6_3)) = true := decide_eq_true c16
                        clear c16
                        simp only [Option.some.injEq, Prod.mk.injEq] at H
                        obtain ⟨rfl, rfl⟩ := H
                        have p13 : 0 ≤ (x6_3 : Int) := of_decide_eq_true (by first | (with_reducible assumption) | assumption)
                        have q13 : x6_3 < (a0.size : Int) := of_decide_eq_true (by first | (with_reducible assumption) | assumption)
                        have hx13 := bt_at a0 x6_3
                        replace p13 := eq_true p13
                        replace q13 := eq_true q13
                        have p15 : 0 ≤ (x6_3 : Int) := of_decide_eq_true (by first | (with_reducible assumption) | assumption)
                        have q15 : x6_3 < (a0.size : Int) := of_decide_eq_true (by first | (with_reducible assumption) | assumption)
                        have hx15 := bt_at a0 x6_3
                        replace p15 := eq_true p15
                        replace q15 := eq_true q15
                        go_wp2
                        go_ret2
                        exact ⟨by first | rfl | (simp [errW_none, errW_some] <;> rfl) | (simp [*, errW_none, errW_some] <;> rfl), by repeat (first | (with_reducible first | exact HB.out | apply below_alloc | apply pw_below_drewN | apply below_drew1) | exact HB.out)⟩
                      · rw [if_neg c16] at H
                        have c16b0 : decide (57 < (bt a0 x6_3)) = false := decide_eq_false c16
                        clear c16
                        obtain ⟨ji18, hji18⟩ : ∃ j_ : Int, (mn (wrap64 ((wrap64 (x5_3 * 10)) + (((bt a0 x6_3) - 48) % 256))) 1099511627776) = j_ := ⟨_, rfl⟩
                        replace H : (hornbookref03_Int.l0 k3 a0 ji18 (wrap64 (x6_3 + 1))) = some (r1, r2) := by first | (rw [hji18] at H; exact H) | (simp only [hji18] at H ⊢; exact H)
                        have hji18_ : (if 1099511627776 < (wrap64 ((wrap64 (x5_3 * 10)) + (((bt a0 x6_3) - 48) % 256))) then 1099511627776 else (wrap64 ((wrap64 (x5_3 * 10)) + (((bt a0 x6_3) - 48) % 256)))) = ji18 := hji18
                        have H' := Aside0.mk H
                        clear H
                        have p13 : 0 ≤ (x6_3 : Int) := of_decide_eq_true (by first | (with_reducible assumption) | assumption)
                        have q13 : x6_3 < (a0.size : Int) := of_decide_eq_true (by first | (with_reducible assumption) | assumption)
                        have hx13 := bt_at a0 x6_3
                        replace p13 := eq_true p13
                        replace q13 := eq_true q13
                        have p15 : 0 ≤ (x6_3 : Int) := of_decide_eq_true (by first | (with_reducible assumption) | assumption)
                        have q15 : x6_3 < (a0.size : Int) := of_decide_eq_true (by first | (with_reducible assumption) | assumption)
                        have hx15 := bt_at a0 x6_3
                        replace p15 := eq_true p15
                        replace q15 := eq_true q15
                        have p17 : 0 ≤ (x6_3 : Int) := of_decide_eq_true (by first | (with_reducible assumption) | assumption)
                        have q17 : x6_3 < (a0.size : Int) := of_decide_eq_true (by first | (with_reducible assumption) | assumption)
                        have hx17 := bt_at a0 x6_3
                        replace p17 := eq_true p17
                        replace q17 := eq_true q17
                        go_wp2
                        go_roundg k3
                        case measure => have := HJ1.out; have := HJ7.out; have := HK3.out; omega
                        case rel => exact ⟨(ji18), (wrap64 (x6_3 + 1)), (by first | rfl | (simp; done) | (simp only [← hji18] <;> (first | rfl | simp)) | (simp [*]; done)), (by first | rfl | (simp; done) | (simp [*]; done)), H', ⟨by have := HJ1.out; have := HJ7.out; have := HK3.out; omega⟩, ⟨by repeat (first | (with_reducible first | exact HB.out | apply below_alloc | apply pw_below_drewN | apply below_drew1) | exact HB.out)⟩⟩
                  · rw [if_neg c12] at H
                    exact absurd H (by simp)
                · rw [if_neg c11] at H
                  have c11b0 : decide (x6_3 < (a0.size : Int)) = false := decide_eq_false c11
                  clear c11
                  by_cases c19 : 0 < (a0.size : Int)
                  · rw [if_pos c19] at H
                    have c19b0 : decide (0 < (a0.size : Int)) = true := decide_eq_true c19
                    have c19b1 : decide (0 < a0.size) = true := decide_eq_true (by omega)
                    clear c19
                    by_cases c21 : (bt a0 0) = 45
                    · rw [if_pos c21] at H
                      have c21b0 : ((bt a0 0) == 45) = true := beq_iff_eq.mpr c21
                      have c21b1 : ((bt a0 0) != 45) = false := bne_eq_false_iff_eq.mpr c21
                      clear c21
                      by_cases c22 : (wrap64 (-x5_3)) < (-2147483648)
                      · rw [if_pos c22] at H
                        have c22b0 : decide ((wrap64 (-x5_3)) < (-2147483648)) = true := decide_eq_true c22
                        clear c22
                        simp only [Option.some.injEq, Prod.mk.injEq] at H
                        obtain ⟨rfl, rfl⟩ := H
                        have p20 : 0 ≤ (0 : Int) := (by omega)
                        have q20 : 0 < a0.size := (by have : (0 : Int) < (a0.size : Int) := of_decide_eq_true (by first | (with_reducible assumption) | assumption); omega)
                        have hx20 : ∀ h : 0 < a0.size, ((a0[0]'h).toNat : Int) = bt a0 0 := bt_at a0 0
                        clear p20
                        have qi20 : (0 < (a0.size : Int)) = True := eq_true (of_decide_eq_true (by first | (with_reducible assumption) | assumption))
                        replace q20 := eq_true q20
                        go_wp2
                        go_ret2
                        exact ⟨by first | rfl | (simp [errW_none, errW_some] <;> rfl) | (simp [*, errW_none, errW_some] <;> rfl), by repeat (first | (with_reducible first | exact HB.out | apply below_alloc | apply pw_below_drewN | apply below_drew1) | exact HB.out)⟩
                      · rw [if_neg c22] at H
                        have c22b0 : decide ((wrap64 (-x5_3)) < (-2147483648)) = false := decide_eq_false c22
                        clear c22
                        by_cases c23 : (wrap64 (-x5_3)) > 2147483647
                        · rw [if_pos c23] at H
                          have c23b0 : decide (2147483647 < (wrap64 (-x5_3))) = true := decide_eq_true c23
                          clear c23
                          simp only [Option.some.injEq, Prod.mk.injEq] at H
                          obtain ⟨rfl, rfl⟩ := H
                          have p20 : 0 ≤ (0 : Int) := (by omega)
                          have q20 : 0 < a0.size := (by have : (0 : Int) < (a0.size : Int) := of_decide_eq_true (by first | (with_reducible assumption) | assumption); omega)
                          have hx20 : ∀ h : 0 < a0.size, ((a0[0]'h).toNat : Int) = bt a0 0 := bt_at a0 0
                          clear p20
                          have qi20 : (0 < (a0.size : Int)) = True := eq_true (of_decide_eq_true (by first | (with_reducible assumption) | assumption))
                          replace q20 := eq_true q20
                          go_wp2
                          go_ret2
                          exact ⟨by first | rfl | (simp [errW_none, errW_some] <;> rfl) | (simp [*, errW_none, errW_some] <;> rfl), by repeat (first | (with_reducible first | exact HB.out | apply below_alloc | apply pw_below_drewN | apply below_drew1) | exact HB.out)⟩
                        · rw [if_neg c23] at H
                          have c23b0 : decide (2147483647 < (wrap64 (-x5_3))) = false := decide_eq_false c23
                          clear c23
                          simp only [Option.some.injEq, Prod.mk.injEq] at H
                          obtain ⟨rfl, rfl⟩ := H
                          have p20 : 0 ≤ (0 : Int) := (by omega)
                          have q20 : 0 < a0.size := (by have : (0 : Int) < (a0.size : Int) := of_decide_eq_true (by first | (with_reducible assumption) | assumption); omega)
                          have hx20 : ∀ h : 0 < a0.size, ((a0[0]'h).toNat : Int) = bt a0 0 := bt_at a0 0
                          clear p20
                          have qi20 : (0 < (a0.size : Int)) = True := eq_true (of_decide_eq_true (by first | (with_reducible assumption) | assumption))
                          replace q20 := eq_true q20
                          go_wp2
                          go_ret2
                          exact ⟨by first | rfl | (simp [errW_none, errW_some] <;> rfl) | (simp [*, errW_none, errW_some] <;> rfl), by repeat (first | (with_reducible first | exact HB.out | apply below_alloc | apply pw_below_drewN | apply below_drew1) | exact HB.out)⟩
                    · rw [if_neg c21] at H
                      have c21b0 : ((bt a0 0) == 45) = false := beq_eq_false_iff_ne.mpr c21
                      have c21b1 : ((bt a0 0) != 45) = true := bne_iff_ne.mpr c21
                      by_cases c24 : x5_3 < (-2147483648)
                      · rw [if_pos c24] at H
                        have c24b0 : decide (x5_3 < (-2147483648)) = true := decide_eq_true c24
                        clear c24
                        simp only [Option.some.injEq, Prod.mk.injEq] at H
                        obtain ⟨rfl, rfl⟩ := H
                        have p20 : 0 ≤ (0 : Int) := (by omega)
                        have q20 : 0 < a0.size := (by have : (0 : Int) < (a0.size : Int) := of_decide_eq_true (by first | (with_reducible assumption) | assumption); omega)
                        have hx20 : ∀ h : 0 < a0.size, ((a0[0]'h).toNat : Int) = bt a0 0 := bt_at a0 0
                        clear p20
                        have qi20 : (0 < (a0.size : Int)) = True := eq_true (of_decide_eq_true (by first | (with_reducible assumption) | assumption))
                        replace q20 := eq_true q20
                        go_wp2
                        go_ret2
                        exact ⟨by first | rfl | (simp [errW_none, errW_some] <;> rfl) | (simp [*, errW_none, errW_some] <;> rfl), by repeat (first | (with_reducible first | exact HB.out | apply below_alloc | apply pw_below_drewN | apply below_drew1) | exact HB.out)⟩
                      · rw [if_neg c24] at H
                        have c24b0 : decide (x5_3 < (-2147483648)) = false := decide_eq_false c24
                        clear c24
                        by_cases c25 : x5_3 > 2147483647
                        · rw [if_pos c25] at H
                          have c25b0 : decide (2147483647 < x5_3) = true := decide_eq_true c25
                          clear c25
                          simp only [Option.some.injEq, Prod.mk.injEq] at H
                          obtain ⟨rfl, rfl⟩ := H
                          have p20 : 0 ≤ (0 : Int) := (by omega)
                          have q20 : 0 < a0.size := (by have : (0 : Int) < (a0.size : Int) := of_decide_eq_true (by first | (with_reducible assumption) | assumption); omega)
                          have hx20 : ∀ h : 0 < a0.size, ((a0[0]'h).toNat : Int) = bt a0 0 := bt_at a0 0
                          clear p20
                          have qi20 : (0 < (a0.size : Int)) = True := eq_true (of_decide_eq_true (by first | (with_reducible assumption) | assumption))
                          replace q20 := eq_true q20
                          go_wp2
                          go_ret2
                          exact ⟨by first | rfl | (simp [errW_none, errW_some] <;> rfl) | (simp [*, errW_none, errW_some] <;> rfl), by repeat (first | (with_reducible first | exact HB.out | apply below_alloc | apply pw_below_drewN | apply below_drew1) | exact HB.out)⟩
                        · rw [if_neg c25] at H
                          have c25b0 : decide (2147483647 < x5_3) = false := decide_eq_false c25
                          clear c25
                          simp only [Option.some.injEq, Prod.mk.injEq] at H
                          obtain ⟨rfl, rfl⟩ := H
                          have p20 : 0 ≤ (0 : Int) := (by omega)
                          have q20 : 0 < a0.size := (by have : (0 : Int) < (a0.size : Int) := of_decide_eq_true (by first | (with_reducible assumption) | assumption); omega)
                          have hx20 : ∀ h : 0 < a0.size, ((a0[0]'h).toNat : Int) = bt a0 0 := bt_at a0 0
                          clear p20
                          have qi20 : (0 < (a0.size : Int)) = True := eq_true (of_decide_eq_true (by first | (with_reducible assumption) | assumption))
                          replace q20 := eq_true q20
                          go_wp2
                          go_ret2
                          exact ⟨by first | rfl | (simp [errW_none, errW_some] <;> rfl) | (simp [*, errW_none, errW_some] <;> rfl), by repeat (first | (with_reducible first | exact HB.out | apply below_alloc | apply pw_below_drewN | apply below_drew1) | exact HB.out)⟩
                  · rw [if_neg c19] at H
                    exact absurd H (by simp)
end Go.Proofs.YtaolcbklpdodaaaGreatDoor.M
end
section
/- Laid by this session's program hbprint.py out of the translation: the function hornbook/hornbooklaw03.LexIs and its contract. -/
namespace Go.Proofs.YtaolcbklpdodaaaGreatDoor.M
open Go.RowKit Go.Proofs.YtaolcbklpdodaaaGreatDoorW.PrintWords Go.Proofs.YtaolcbklpdodaaaGreatDoorW.PrintLast Go.Proofs.YtaolcbklpdodaaaGreatDoorW.PrintMore
attribute [local go_sem] max2_int min2_int max_two min_two max_three min_three max_four min_four
set_option linter.unusedVariables false
set_option linter.unusedSimpArgs false
def hornbooklaw03_LexIs.f (k : Nat) (a0 : Int) (a1 : ByteArray) (a2 : Int) : Option (Bool) := (hornbooklaw03_awake.f k).bind fun t171 => (if (a1.size : Int) > 1000 then (some t171) else ((lex_Word.f k a1 a2).bind fun bt172 => ((hornbookref03_Word.f k a1 a2).bind fun bt174 => ((lex_Int.f a1).bind fun bt176 => ((hornbookref03_Int.f k a1).bind fun bt178 => (if t171 = true then ((lex_Class.f k a0).bind fun t180 => ((hornbookref03_Class.f k a0).bind fun t181 => (if t180 = t181 then ((lex_Skip.f k a1 a2).bind fun t182 => ((hornbookref03_Skip.f k a1 a2).bind fun t183 => (if t182 = t183 then (if bt172.1.toList = bt174.1.toList then (if bt172.2 = bt174.2 then (if bt176.1 = bt178.1 then (if bt176.2 = bt178.2 then ((lex_Name.f a1).bind fun t184 => ((hornbookref03_Name.f k a1).bind fun t185 => (if t184.toList = t185.toList then ((lex_Write.f a1).bind fun t186 => ((hornbookref03_Write.f k a1).bind fun t187 => (some (t186.toList == t187.toList)))) else (some false)))) else (some false)) else (some false)) else (some false)) else (some false)) else (some false)))) else (some false)))) else (some false)))))))
set_option maxHeartbeats 8000000 in
set_option maxRecDepth 100000 in
theorem hornbooklaw03_LexIs.calls (k : Nat) (a0 : Int) (a1 : ByteArray) (a2 : Int) (r : Bool) (w : World) (hG : GW w) (h : hornbooklaw03_LexIs.f k a0 a1 a2 = some r) :
    Calls Tryz.prog 3 #[.int .i64 a0, .string a1, .int .i64 a2] w fun e w' => e = .returned (.bool r) ∧ Below w.heap.size w w' := by
  have HG := Aside0.mk hG
  clear hG
  have HB := Aside0.mk (Below.refl w.heap.size w)
  have H : ((hornbooklaw03_awake.f k).bind fun t171 => (if (a1.size : Int) > 1000 then (some t171) else ((lex_Word.f k a1 a2).bind fun bt172 => ((hornbookref03_Word.f k a1 a2).bind fun bt174 => ((lex_Int.f a1).bind fun bt176 => ((hornbookref03_Int.f k a1).bind fun bt178 => (if t171 = true then ((lex_Class.f k a0).bind fun t180 => ((hornbookref03_Class.f k a0).bind fun t181 => (if t180 = t181 then ((lex_Skip.f k a1 a2).bind fun t182 => ((hornbookref03_Skip.f k a1 a2).bind fun t183 => (if t182 = t183 then (if bt172.1.toList = bt174.1.toList then (if bt172.2 = bt174.2 then (if bt176.1 = bt178.1 then (if bt176.2 = bt178.2 then ((lex_Name.f a1).bind fun t184 => ((hornbookref03_Name.f k a1).bind fun t185 => (if t184.toList = t185.toList then ((lex_Write.f a1).bind fun t186 => ((hornbookref03_Write.f k a1).bind fun t187 => (some (t186.toList == t187.toList)))) else (some false)))) else (some false)) else (some false)) else (some false)) else (some false)) else (some false)))) else (some false)))) else (some false)))))))) = some r := h
  clear h
  replace H := Option.bind_eq_some_iff.mp H
  obtain ⟨t171, A40, H⟩ := H
  replace H : (if (a1.size : Int) > 1000 then (some t171) else ((lex_Word.f k a1 a2).bind fun bt172 => ((hornbookref03_Word.f k a1 a2).bind fun bt174 => ((lex_Int.f a1).bind fun bt176 => ((hornbookref03_Int.f k a1).bind fun bt178 => (if t171 = true then ((lex_Class.f k a0).bind fun t180 => ((hornbookref03_Class.f k a0).bind fun t181 => (if t180 = t181 then ((lex_Skip.f k a1 a2).bind fun t182 => ((hornbookref03_Skip.f k a1 a2).bind fun t183 => (if t182 = t183 then (if bt172.1.toList = bt174.1.toList then (if bt172.2 = bt174.2 then (if bt176.1 = bt178.1 then (if bt176.2 = bt178.2 then ((lex_Name.f a1).bind fun t184 => ((hornbookref03_Name.f k a1).bind fun t185 => (if t184.toList = t185.toList then ((lex_Write.f a1).bind fun t186 => ((hornbookref03_Write.f k a1).bind fun t187 => (some (t186.toList == t187.toList)))) else (some false)))) else (some false)) else (some false)) else (some false)) else (some false)) else (some false)))) else (some false)))) else (some false))))))) = some r := H
  have A4 := Aside0.mk A40
  clear A40
  by_cases c5 : (a1.size : Int) > 1000
  · rw [if_pos c5] at H
    have c5b0 : decide (1000 < (a1.size : Int)) = true := decide_eq_true c5
    have c5b1 : decide (1000 < a1.size) = true := decide_eq_true (by omega)
    clear c5
    obtain rfl := Option.some.inj H
    go_enter Tryz.func3, Tryz.ntmps3
    go_wp2_with (first | ((with_reducible refine gate_callee (f := 4) rfl ?_); refine goesL_ (some 16) rfl rfl Tryz.func4 (by kernel_rfl) rfl #[] rfl (by (try simp only [List.map_toArray, List.map_cons, List.map_nil]); first | done | rfl | (simp only [List.length_drop, List.length_take]; rfl)) ?_; (with_reducible refine (hornbooklaw03_awake.calls k  t171 _ ?side1 A4.out).mono ?_); (case side1 => exact GW.below (by repeat (first | (with_reducible first | exact HB.out | apply below_alloc | apply pw_below_drewN | apply below_drew1) | exact HB.out)) HG.out); rintro e w6 ⟨rfl, hb⟩; refine ⟨_, rfl, ?_⟩; have n0_ := Aside0.mk (below_step (by repeat (first | (with_reducible first | exact HB.out | apply below_alloc | apply pw_below_drewN | apply below_drew1) | exact HB.out)) hb); clear HB; have HB := n0_; clear n0_; (try clear hb); (try clear hb2); (try clear hk); (try clear hi)))
    go_ret
    exact ⟨by first | rfl | (simp [errW_none, errW_some] <;> rfl) | (simp [*, errW_none, errW_some] <;> rfl), by repeat (first | (with_reducible first | exact HB.out | apply below_alloc | apply pw_below_drewN | apply below_drew1) | exact HB.out)⟩
  · rw [if_neg c5] at H
    have c5b0 : decide (1000 < (a1.size : Int)) = false := decide_eq_false c5
    have c5b1 : decide (1000 < a1.size) = false := decide_eq_false (by omega)
    clear c5
    replace H := Option.bind_eq_some_iff.mp H
    obtain ⟨⟨t172, t173⟩, A70, H⟩ := H
    replace H : ((hornbookref03_Word.f k a1 a2).bind fun bt174 => ((lex_Int.f a1).bind fun bt176 => ((hornbookref03_Int.f k a1).bind fun bt178 => (if t171 = true then ((lex_Class.f k a0).bind fun t180 => ((hornbookref03_Class.f k a0).bind fun t181 => (if t180 = t181 then ((lex_Skip.f k a1 a2).bind fun t182 => ((hornbookref03_Skip.f k a1 a2).bind fun t183 => (if t182 = t183 then (if t172.toList = bt174.1.toList then (if t173 = bt174.2 then (if bt176.1 = bt178.1 then (if bt176.2 = bt178.2 then ((lex_Name.f a1).bind fun t184 => ((hornbookref03_Name.f k a1).bind fun t185 => (if t184.toList = t185.toList then ((lex_Write.f a1).bind fun t186 => ((hornbookref03_Write.f k a1).bind fun t187 => (some (t186.toList == t187.toList)))) else (some false)))) else (some false)) else (some false)) else (some false)) else (some false)) else (some false)))) else (some false)))) else (some false))))) = some r := H
    have A7 := Aside0.mk A70
    clear A70
    replace H := Option.bind_eq_some_iff.mp H
    obtain ⟨⟨t174, t175⟩, A80, H⟩ := H
    replace H : ((lex_Int.f a1).bind fun bt176 => ((hornbookref03_Int.f k a1).bind fun bt178 => (if t171 = true then ((lex_Class.f k a0).bind fun t180 => ((hornbookref03_Class.f k a0).bind fun t181 => (if t180 = t181 then ((lex_Skip.f k a1 a2).bind fun t182 => ((hornbookref03_Skip.f k a1 a2).bind fun t183 => (if t182 = t183 then (if t172.toList = t174.toList then (if t173 = t175 then (if bt176.1 = bt178.1 then (if bt176.2 = bt178.2 then ((lex_Name.f a1).bind fun t184 => ((hornbookref03_Name.f k a1).bind fun t185 => (if t184.toList = t185.toList then ((lex_Write.f a1).bind fun t186 => ((hornbookref03_Write.f k a1).bind fun t187 => (some (t186.toList == t187.toList)))) else (some false)))) else (some false)) else (some false)) else (some false)) else (some false)) else (some false)))) else (some false)))) else (some false)))) = some r := H
    have A8 := Aside0.mk A80
    clear A80
    replace H := Option.bind_eq_some_iff.mp H
    obtain ⟨⟨t176, t177⟩, A90, H⟩ := H
    replace H : ((hornbookref03_Int.f k a1).bind fun bt178 => (if t171 = true then ((lex_Class.f k a0).bind fun t180 => ((hornbookref03_Class.f k a0).bind fun t181 => (if t180 = t181 then ((lex_Skip.f k a1 a2).bind fun t182 => ((hornbookref03_Skip.f k a1 a2).bind fun t183 => (if t182 = t183 then (if t172.toList = t174.toList then (if t173 = t175 then (if t176 = bt178.1 then (if t177 = bt178.2 then ((lex_Name.f a1).bind fun t184 => ((hornbookref03_Name.f k a1).bind fun t185 => (if t184.toList = t185.toList then ((lex_Write.f a1).bind fun t186 => ((hornbookref03_Write.f k a1).bind fun t187 => (some (t186.toList == t187.toList)))) else (some false)))) else (some false)) else (some false)) else (some false)) else (some false)) else (some false)))) else (some false)))) else (some false))) = some r := H
    have A9 := Aside0.mk A90
    clear A90
    replace H := Option.bind_eq_some_iff.mp H
    obtain ⟨⟨t178, t179⟩, A100, H⟩ := H
    replace H : (if t171 = true then ((lex_Class.f k a0).bind fun t180 => ((hornbookref03_Class.f k a0).bind fun t181 => (if t180 = t181 then ((lex_Skip.f k a1 a2).bind fun t182 => ((hornbookref03_Skip.f k a1 a2).bind fun t183 => (if t182 = t183 then (if t172.toList = t174.toList then (if t173 = t175 then (if t176 = t178 then (if t177 = t179 then ((lex_Name.f a1).bind fun t184 => ((hornbookref03_Name.f k a1).bind fun t185 => (if t184.toList = t185.toList then ((lex_Write.f a1).bind fun t186 => ((hornbookref03_Write.f k a1).bind fun t187 => (some (t186.toList == t187.toList)))) else (some false)))) else (some false)) else (some false)) else (some false)) else (some false)) else (some false)))) else (some false)))) else (some false)) = some r := H
    have A10 := Aside0.mk A100
    clear A100
    by_cases c11 : t171 = true
    · subst c11
      have H1 : ((lex_Class.f k a0).bind fun t180 => ((hornbookref03_Class.f k a0).bind fun t181 => (if t180 = t181 then ((lex_Skip.f k a1 a2).bind fun t182 => ((hornbookref03_Skip.f k a1 a2).bind fun t183 => (if t182 = t183 then (if t172.toList = t174.toList then (if t173 = t175 then (if t176 = t178 then (if t177 = t179 then ((lex_Name.f a1).bind fun t184 => ((hornbookref03_Name.f k a1).bind fun t185 => (if t184.toList = t185.toList then ((lex_Write.f a1).bind fun t186 => ((hornbookref03_Write.f k a1).bind fun t187 => (some (t186.toList == t187.toList)))) else (some false)))) else (some false)) else (some false)) else (some false)) else (some false)) else (some false)))) else (some false)))) = some r := by rw [if_pos rfl] at H; exact H
      clear H
      have H := H1
      clear H1
      replace H := Option.bind_eq_some_iff.mp H
      obtain ⟨t180, A120, H⟩ := H
      replace H : ((hornbookref03_Class.f k a0).bind fun t181 => (if t180 = t181 then ((lex_Skip.f k a1 a2).bind fun t182 => ((hornbookref03_Skip.f k a1 a2).bind fun t183 => (if t182 = t183 then (if t172.toList = t174.toList then (if t173 = t175 then (if t176 = t178 then (if t177 = t179 then ((lex_Name.f a1).bind fun t184 => ((hornbookref03_Name.f k a1).bind fun t185 => (if t184.toList = t185.toList then ((lex_Write.f a1).bind fun t186 => ((hornbookref03_Write.f k a1).bind fun t187 => (some (t186.toList == t187.toList)))) else (some false)))) else (some false)) else (some false)) else (some false)) else (some false)) else (some false)))) else (some false))) = some r := H
      have A12 := Aside0.mk A120
      clear A120
      replace H := Option.bind_eq_some_iff.mp H
      obtain ⟨t181, A130, H⟩ := H
      replace H : (if t180 = t181 then ((lex_Skip.f k a1 a2).bind fun t182 => ((hornbookref03_Skip.f k a1 a2).bind fun t183 => (if t182 = t183 then (if t172.toList = t174.toList then (if t173 = t175 then (if t176 = t178 then (if t177 = t179 then ((lex_Name.f a1).bind fun t184 => ((hornbookref03_Name.f k a1).bind fun t185 => (if t184.toList = t185.toList then ((lex_Write.f a1).bind fun t186 => ((hornbookref03_Write.f k a1).bind fun t187 => (some (t186.toList == t187.toList)))) else (some false)))) else (some false)) else (some false)) else (some false)) else (some false)) else (some false)))) else (some false)) = some r := H
      have A13 := Aside0.mk A130
      clear A130
      by_cases c14 : t180 = t181
      · rw [if_pos c14] at H
        have c14b0 : (t180 == t181) = true := beq_iff_eq.mpr c14
        have c14b1 : (t180 != t181) = false := bne_eq_false_iff_eq.mpr c14
        clear c14
        replace H := Option.bind_eq_some_iff.mp H
        obtain ⟨t182, A150, H⟩ := H
        replace H : ((hornbookref03_Skip.f k a1 a2).bind fun t183 => (if t182 = t183 then (if t172.toList = t174.toList then (if t173 = t175 then (if t176 = t178 then (if t177 = t179 then ((lex_Name.f a1).bind fun t184 => ((hornbookref03_Name.f k a1).bind fun t185 => (if t184.toList = t185.toList then ((lex_Write.f a1).bind fun t186 => ((hornbookref03_Write.f k a1).bind fun t187 => (some (t186.toList == t187.toList)))) else (some false)))) else (some false)) else (some false)) else (some false)) else (some false)) else (some false))) = some r := H
        have A15 := Aside0.mk A150
        clear A150
        replace H := Option.bind_eq_some_iff.mp H
        obtain ⟨t183, A160, H⟩ := H
        replace H : (if t182 = t183 then (if t172.toList = t174.toList then (if t173 = t175 then (if t176 = t178 then (if t177 = t179 then ((lex_Name.f a1).bind fun t184 => ((hornbookref03_Name.f k a1).bind fun t185 => (if t184.toList = t185.toList then ((lex_Write.f a1).bind fun t186 => ((hornbookref03_Write.f k a1).bind fun t187 => (some (t186.toList == t187.toList)))) else (some false)))) else (some false)) else (some false)) else (some false)) else (some false)) else (some false)) = some r := H
        have A16 := Aside0.mk A160
        clear A160
        by_cases c17 : t182 = t183
        · rw [if_pos c17] at H
          have c17b0 : (t182 == t183) = true := beq_iff_eq.mpr c17
          have c17b1 : (t182 != t183) = false := bne_eq_false_iff_eq.mpr c17
          clear c17
          by_cases c18 : t172.toList = t174.toList
          · rw [if_pos c18] at H
            have c18b0 : (t172.toList == t174.toList) = true := beq_iff_eq.mpr c18
            have c18b1 : (t172.toList != t174.toList) = false := bne_eq_false_iff_eq.mpr c18
            clear c18
            by_cases c19 : t173 = t175
            · rw [if_pos c19] at H
              have c19b0 : (t173 == t175) = true := beq_iff_eq.mpr c19
              have c19b1 : (t173 != t175) = false := bne_eq_false_iff_eq.mpr c19
              clear c19
              by_cases c20 : t176 = t178
              · rw [if_pos c20] at H
                have c20b0 : (t176 == t178) = true := beq_iff_eq.mpr c20
                have c20b1 : (t176 != t178) = false := bne_eq_false_iff_eq.mpr c20
                clear c20
                by_cases c21 : t177 = t179
                · rw [if_pos c21] at H
                  have c21b0 : (t177 == t179) = true := beq_iff_eq.mpr c21
                  have c21b1 : (t177 != t179) = false := bne_eq_false_iff_eq.mpr c21
                  clear c21
                  replace H := Option.bind_eq_some_iff.mp H
                  obtain ⟨t184, A220, H⟩ := H
                  replace H : ((hornbookref03_Name.f k a1).bind fun t185 => (if t184.toList = t185.toList then ((lex_Write.f a1).bind fun t186 => ((hornbookref03_Write.f k a1).bind fun t187 => (some (t186.toList == t187.toList)))) else (some false))) = some r := H
                  have A22 := Aside0.mk A220
                  clear A220
                  replace H := Option.bind_eq_some_iff.mp H
                  obtain ⟨t185, A230, H⟩ := H
                  replace H : (if t184.toList = t185.toList then ((lex_Write.f a1).bind fun t186 => ((hornbookref03_Write.f k a1).bind fun t187 => (some (t186.toList == t187.toList)))) else (some false)) = some r := H
                  have A23 := Aside0.mk A230
                  clear A230
                  by_cases c24 : t184.toList = t185.toList
                  · rw [if_pos c24] at H
                    have c24b0 : (t184.toList == t185.toList) = true := beq_iff_eq.mpr c24
                    have c24b1 : (t184.toList != t185.toList) = false := bne_eq_false_iff_eq.mpr c24
                    clear c24
                    replace H := Option.bind_eq_some_iff.mp H
                    obtain ⟨t186, A250, H⟩ := H
                    replace H : ((hornbookref03_Write.f k a1).bind fun t187 => (some (t186.toList == t187.toList))) = some r := H
                    have A25 := Aside0.mk A250
                    clear A250
                    replace H := Option.bind_eq_some_iff.mp H
                    obtain ⟨t187, A260, H⟩ := H
                    replace H : (some (t186.toList == t187.toList)) = some r := H
                    have A26 := Aside0.mk A260
                    clear A260
                    obtain rfl := Option.some.inj H
                    go_enter Tryz.func3, Tryz.ntmps3
                    go_wp2_with (first | ((with_reducible refine gate_callee (f := 4) rfl ?_); refine goesL_ (some 16) rfl rfl Tryz.func4 (by kernel_rfl) rfl #[] rfl (by (try simp only [List.map_toArray, List.map_cons, List.map_nil]); first | done | rfl | (simp only [List.length_drop, List.length_take]; rfl)) ?_; (with_reducible refine (hornbooklaw03_awake.calls k  true _ ?side1 A4.out).mono ?_); (case side1 => exact GW.below (by repeat (first | (with_reducible first | exact HB.out | apply below_alloc | apply pw_below_drewN | apply below_drew1) | exact HB.out)) HG.out); rintro e w27 ⟨rfl, hb⟩; refine ⟨_, rfl, ?_⟩; have n0_ := Aside0.mk (below_step (by repeat (first | (with_reducible first | exact HB.out | apply below_alloc | apply pw_below_drewN | apply below_drew1) | exact HB.out)) hb); clear HB; have HB := n0_; clear n0_; (try clear hb); (try clear hb2); (try clear hk); (try clear hi)) | ((with_reducible refine gate_callee (f := 5) rfl ?_); refine goesL_ (some 24) rfl rfl Tryz.func5 (by kernel_rfl) rfl #[.string a1, .int .i64 a2] rfl (by (try simp only [List.map_toArray, List.map_cons, List.map_nil]); first | done | rfl | (simp only [List.length_drop, List.length_take]; rfl)) ?_; (with_reducible refine (lex_Word.calls k a1 a2 t172 t173 _ A7.out).mono ?_); rintro e w28 ⟨rfl, hb⟩; refine ⟨_, rfl, ?_⟩; have n0_ := Aside0.mk (below_step (by repeat (first | (with_reducible first | exact HB.out | apply below_alloc | apply pw_below_drewN | apply below_drew1) | exact HB.out)) hb); clear HB; have HB := n0_; clear n0_; (try clear hb); (try clear hb2); (try clear hk); (try clear hi)) | ((with_reducible refine gate_callee (f := 6) rfl ?_); refine goesL_ (some 30) rfl rfl Tryz.func6 (by kernel_rfl) rfl #[.string a1, .int .i64 a2] rfl (by (try simp only [List.map_toArray, List.map_cons, List.map_nil]); first | done | rfl | (simp only [List.length_drop, List.length_take]; rfl)) ?_; (with_reducible refine (hornbookref03_Word.calls k a1 a2 t174 t175 _ A8.out).mono ?_); rintro e w29 ⟨rfl, hb⟩; refine ⟨_, rfl, ?_⟩; have n0_ := Aside0.mk (below_step (by repeat (first | (with_reducible first | exact HB.out | apply below_alloc | apply pw_below_drewN | apply below_drew1) | exact HB.out)) hb); clear HB; have HB := n0_; clear n0_; (try clear hb); (try clear hb2); (try clear hk); (try clear hi)) | ((with_reducible refine gate_callee (f := 7) rfl ?_); refine goesL_ (some 35) rfl rfl Tryz.func7 (by kernel_rfl) rfl #[.string a1] rfl (by (try simp only [List.map_toArray, List.map_cons, List.map_nil]); first | done | rfl | (simp only [List.length_drop, List.length_take]; rfl)) ?_; (with_reducible refine (lex_Int.calls a1 t176 t177 _ ?side1 A9.out).mono ?_); (case side1 => exact GW.below (by repeat (first | (with_reducible first | exact HB.out | apply below_alloc | apply pw_below_drewN | apply below_drew1) | exact HB.out)) HG.out); rintro e w30 ⟨rfl, hb⟩; refine ⟨_, rfl, ?_⟩; have n0_ := Aside0.mk (below_step (by repeat (first | (with_reducible first | exact HB.out | apply below_alloc | apply pw_below_drewN | apply below_drew1) | exact HB.out)) hb); clear HB; have HB := n0_; clear n0_; (try clear hb); (try clear hb2); (try clear hk); (try clear hi)) | ((with_reducible refine gate_callee (f := 8) rfl ?_); refine goesL_ (some 40) rfl rfl Tryz.func8 (by kernel_rfl) rfl #[.string a1] rfl (by (try simp only [List.map_toArray, List.map_cons, List.map_nil]); first | done | rfl | (simp only [List.length_drop, List.length_take]; rfl)) ?_; (with_reducible refine (hornbookref03_Int.calls k a1 t178 t179 _ A10.out).mono ?_); rintro e w31 ⟨rfl, hb⟩; refine ⟨_, rfl, ?_⟩; have n0_ := Aside0.mk (below_step (by repeat (first | (with_reducible first | exact HB.out | apply below_alloc | apply pw_below_drewN | apply below_drew1) | exact HB.out)) hb); clear HB; have HB := n0_; clear n0_; (try clear hb); (try clear hb2); (try clear hk); (try clear hi)) | (go_at_call 9; (with_reducible refine (lex_Class.calls k a0 t180 _ A12.out).mono ?_); rintro e w32 ⟨rfl, hb⟩; have n0_ := Aside0.mk (below_step (by repeat (first | (with_reducible first | exact HB.out | apply below_alloc | apply pw_below_drewN | apply below_drew1) | exact HB.out)) hb); clear HB; have HB := n0_; clear n0_; (try clear hb); (try clear hb2); (try clear hk); (try clear hi)) | (go_at_call 10; (with_reducible refine (hornbookref03_Class.calls k a0 t181 _ A13.out).mono ?_); rintro e w' ⟨rfl, ⟨nd, rfl⟩⟩) | (go_at_call 11; (with_reducible refine (lex_Skip.calls k a1 a2 t182 _ A15.out).mono ?_); rintro e w33 ⟨rfl, hb⟩; have n0_ := Aside0.mk (below_step (by repeat (first | (with_reducible first | exact HB.out | apply below_alloc | apply pw_below_drewN | apply below_drew1) | exact HB.out)) hb); clear HB; have HB := n0_; clear n0_; (try clear hb); (try clear hb2); (try clear hk); (try clear hi)) | (go_at_call 12; (with_reducible refine (hornbookref03_Skip.calls k a1 a2 t183 _ A16.out).mono ?_); rintro e w34 ⟨rfl, hb⟩; have n0_ := Aside0.mk (below_step (by repeat (first | (with_reducible first | exact HB.out | apply below_alloc | apply pw_below_drewN | apply below_drew1) | exact HB.out)) hb); clear HB; have HB := n0_; clear n0_; (try clear hb); (try clear hb2); (try clear hk); (try clear hi)) | (go_at_call 13; (with_reducible refine (lex_Name.calls a1 t184 _ A22.out).mono ?_); rintro e w35 ⟨rfl, hb⟩; have n0_ := Aside0.mk (below_step (by repeat (first | (with_reducible first | exact HB.out | apply below_alloc | apply pw_below_drewN | apply below_drew1) | exact HB.out)) hb); clear HB; have HB := n0_; clear n0_; (try clear hb); (try clear hb2); (try clear hk); (try clear hi)) | (go_at_call 14; (with_reducible refine (hornbookref03_Name.calls k a1 t185 _ A23.out).mono ?_); rintro e w36 ⟨rfl, hb⟩; have n0_ := Aside0.mk (below_step (by repeat (first | (with_reducible first | exact HB.out | apply below_alloc | apply pw_below_drewN | apply below_drew1) | exact HB.out)) hb); clear HB; have HB := n0_; clear n0_; (try clear hb); (try clear hb2); (try clear hk); (try clear hi)) | (go_at_call 15; (with_reducible refine (lex_Write.calls a1 t186 _ A25.out).mono ?_); rintro e w37 ⟨rfl, hb⟩; have n0_ := Aside0.mk (below_step (by repeat (first | (with_reducible first | exact HB.out | apply below_alloc | apply pw_below_drewN | apply below_drew1) | exact HB.out)) hb); clear HB; have HB := n0_; clear n0_; (try clear hb); (try clear hb2); (try clear hk); (try clear hi)) | (go_at_call 16; (with_reducible refine (hornbookref03_Write.calls k a1 t187 _ A26.out).mono ?_); rintro e w38 ⟨rfl, hb⟩; have n0_ := Aside0.mk (below_step (by repeat (first | (with_reducible first | exact HB.out | apply below_alloc | apply pw_below_drewN | apply below_drew1) | exact HB.out)) hb); clear HB; have HB := n0_; clear n0_; (try clear hb); (try clear hb2); (try clear hk); (try clear hi)))
                    go_ret
                    exact ⟨by first | rfl | (simp [errW_none, errW_some] <;> rfl) | (simp [*, errW_none, errW_some] <;> rfl), by repeat (first | (with_reducible first | exact HB.out | apply below_alloc | apply pw_below_drewN | apply below_drew1) | exact HB.out)⟩
                  · rw [if_neg c24] at H
                    have c24b0 : (t184.toList == t185.toList) = false := beq_eq_false_iff_ne.mpr c24
                    have c24b1 : (t184.toList != t185.toList) = true := bne_iff_ne.mpr c24
                    obtain rfl := Option.some.inj H
                    go_enter Tryz.func3, Tryz.ntmps3
                    go_wp2_with (first | ((with_reducible refine gate_callee (f := 4) rfl ?_); refine goesL_ (some 16) rfl rfl Tryz.func4 (by kernel_rfl) rfl #[] rfl (by (try simp only [List.map_toArray, List.map_cons, List.map_nil]); first | done | rfl | (simp only [List.length_drop, List.length_take]; rfl)) ?_; (with_reducible refine (hornbooklaw03_awake.calls k  true _ ?side1 A4.out).mono ?_); (case side1 => exact GW.below (by repeat (first | (with_reducible first | exact HB.out | apply below_alloc | apply pw_below_drewN | apply below_drew1) | exact HB.out)) HG.out); rintro e w39 ⟨rfl, hb⟩; refine ⟨_, rfl, ?_⟩; have n0_ := Aside0.mk (below_step (by repeat (first | (with_reducible first | exact HB.out | apply below_alloc | apply pw_below_drewN | apply below_drew1) | exact HB.out)) hb); clear HB; have HB := n0_; clear n0_; (try clear hb); (try clear hb2); (try clear hk); (try clear hi)) | ((with_reducible refine gate_callee (f := 5) rfl ?_); refine goesL_ (some 24) rfl rfl Tryz.func5 (by kernel_rfl) rfl #[.string a1, .int .i64 a2] rfl (by (try simp only [List.map_toArray, List.map_cons, List.map_nil]); first | done | rfl | (simp only [List.length_drop, List.length_take]; rfl)) ?_; (with_reducible refine (lex_Word.calls k a1 a2 t172 t173 _ A7.out).mono ?_); rintro e w40 ⟨rfl, hb⟩; refine ⟨_, rfl, ?_⟩; have n0_ := Aside0.mk (below_step (by repeat (first | (with_reducible first | exact HB.out | apply below_alloc | apply pw_below_drewN | apply below_drew1) | exact HB.out)) hb); clear HB; have HB := n0_; clear n0_; (try clear hb); (try clear hb2); (try clear hk); (try clear hi)) | ((with_reducible refine gate_callee (f := 6) rfl ?_); refine goesL_ (some 30) rfl rfl Tryz.func6 (by kernel_rfl) rfl #[.string a1, .int .i64 a2] rfl (by (try simp only [List.map_toArray, List.map_cons, List.map_nil]); first | done | rfl | (simp only [List.length_drop, List.length_take]; rfl)) ?_; (with_reducible refine (hornbookref03_Word.calls k a1 a2 t174 t175 _ A8.out).mono ?_); rintro e w41 ⟨rfl, hb⟩; refine ⟨_, rfl, ?_⟩; have n0_ := Aside0.mk (below_step (by repeat (first | (with_reducible first | exact HB.out | apply below_alloc | apply pw_below_drewN | apply below_drew1) | exact HB.out)) hb); clear HB; have HB := n0_; clear n0_; (try clear hb); (try clear hb2); (try clear hk); (try clear hi)) | ((with_reducible refine gate_callee (f := 7) rfl ?_); refine goesL_ (some 35) rfl rfl Tryz.func7 (by kernel_rfl) rfl #[.string a1] rfl (by (try simp only [List.map_toArray, List.map_cons, List.map_nil]); first | done | rfl | (simp only [List.length_drop, List.length_take]; rfl)) ?_; (with_reducible refine (lex_Int.calls a1 t176 t177 _ ?side1 A9.out).mono ?_); (case side1 => exact GW.below (by repeat (first | (with_reducible first | exact HB.out | apply below_alloc | apply pw_below_drewN | apply below_drew1) | exact HB.out)) HG.out); rintro e w42 ⟨rfl, hb⟩; refine ⟨_, rfl, ?_⟩; have n0_ := Aside0.mk (below_step (by repeat (first | (with_reducible first | exact HB.out | apply below_alloc | apply pw_below_drewN | apply below_drew1) | exact HB.out)) hb); clear HB; have HB := n0_; clear n0_; (try clear hb); (try clear hb2); (try clear hk); (try clear hi)) | ((with_reducible refine gate_callee (f := 8) rfl ?_); refine goesL_ (some 40) rfl rfl Tryz.func8 (by kernel_rfl) rfl #[.string a1] rfl (by (try simp only [List.map_toArray, List.map_cons, List.map_nil]); first | done | rfl | (simp only [List.length_drop, List.length_take]; rfl)) ?_; (with_reducible refine (hornbookref03_Int.calls k a1 t178 t179 _ A10.out).mono ?_); rintro e w43 ⟨rfl, hb⟩; refine ⟨_, rfl, ?_⟩; have n0_ := Aside0.mk (below_step (by repeat (first | (with_reducible first | exact HB.out | apply below_alloc | apply pw_below_drewN | apply below_drew1) | exact HB.out)) hb); clear HB; have HB := n0_; clear n0_; (try clear hb); (try clear hb2); (try clear hk); (try clear hi)) | (go_at_call 9; (with_reducible refine (lex_Class.calls k a0 t180 _ A12.out).mono ?_); rintro e w44 ⟨rfl, hb⟩; have n0_ := Aside0.mk (below_step (by repeat (first | (with_reducible first | exact HB.out | apply below_alloc | apply pw_below_drewN | apply below_drew1) | exact HB.out)) hb); clear HB; have HB := n0_; clear n0_; (try clear hb); (try clear hb2); (try clear hk); (try clear hi)) | (go_at_call 10; (with_reducible refine (hornbookref03_Class.calls k a0 t181 _ A13.out).mono ?_); rintro e w' ⟨rfl, ⟨nd, rfl⟩⟩) | (go_at_call 11; (with_reducible refine (lex_Skip.calls k a1 a2 t182 _ A15.out).mono ?_); rintro e w45 ⟨rfl, hb⟩; have n0_ := Aside0.mk (below_step (by repeat (first | (with_reducible first | exact HB.out | apply below_alloc | apply pw_below_drewN | apply below_drew1) | exact HB.out)) hb); clear HB; have HB := n0_; clear n0_; (try clear hb); (try clear hb2); (try clear hk); (try clear hi)) | (go_at_call 12; (with_reducible refine (hornbookref03_Skip.calls k a1 a2 t183 _ A16.out).mono ?_); rintro e w46 ⟨rfl, hb⟩; have n0_ := Aside0.mk (below_step (by repeat (first | (with_reducible first | exact HB.out | apply below_alloc | apply pw_below_drewN | apply below_drew1) | exact HB.out)) hb); clear HB; have HB := n0_; clear n0_; (try clear hb); (try clear hb2); (try clear hk); (try clear hi)) | (go_at_call 13; (with_reducible refine (lex_Name.calls a1 t184 _ A22.out).mono ?_); rintro e w47 ⟨rfl, hb⟩; have n0_ := Aside0.mk (below_step (by repeat (first | (with_reducible first | exact HB.out | apply below_alloc | apply pw_below_drewN | apply below_drew1) | exact HB.out)) hb); clear HB; have HB := n0_; clear n0_; (try clear hb); (try clear hb2); (try clear hk); (try clear hi)) | (go_at_call 14; (with_reducible refine (hornbookref03_Name.calls k a1 t185 _ A23.out).mono ?_); rintro e w48 ⟨rfl, hb⟩; have n0_ := Aside0.mk (below_step (by repeat (first | (with_reducible first | exact HB.out | apply below_alloc | apply pw_below_drewN | apply below_drew1) | exact HB.out)) hb); clear HB; have HB := n0_; clear n0_; (try clear hb); (try clear hb2); (try clear hk); (try clear hi)))
                    go_ret
                    exact ⟨by first | rfl | (simp [errW_none, errW_some] <;> rfl) | (simp [*, errW_none, errW_some] <;> rfl), by repeat (first | (with_reducible first | exact HB.out | apply below_alloc | apply pw_below_drewN | apply below_drew1) | exact HB.out)⟩
                · rw [if_neg c21] at H
                  have c21b0 : (t177 == t179) = false := beq_eq_false_iff_ne.mpr c21
                  have c21b1 : (t177 != t179) = true := bne_iff_ne.mpr c21
                  obtain rfl := Option.some.inj H
                  go_enter Tryz.func3, Tryz.ntmps3
                  go_wp2_with (first | ((with_reducible refine gate_callee (f := 4) rfl ?_); refine goesL_ (some 16) rfl rfl Tryz.func4 (by kernel_rfl) rfl #[] rfl (by (try simp only [List.map_toArray, List.map_cons, List.map_nil]); first | done | rfl | (simp only [List.length_drop, List.length_take]; rfl)) ?_; (with_reducible refine (hornbooklaw03_awake.calls k  true _ ?side1 A4.out).mono ?_); (case side1 => exact GW.below (by repeat (first | (with_reducible first | exact HB.out | apply below_alloc | apply pw_below_drewN | apply below_drew1) | exact HB.out)) HG.out); rintro e w49 ⟨rfl, hb⟩; refine ⟨_, rfl, ?_⟩; have n0_ := Aside0.mk (below_step (by repeat (first | (with_reducible first | exact HB.out | apply below_alloc | apply pw_below_drewN | apply below_drew1) | exact HB.out)) hb); clear HB; have HB := n0_; clear n0_; (try clear hb); (try clear hb2); (try clear hk); (try clear hi)) | ((with_reducible refine gate_callee (f := 5) rfl ?_); refine goesL_ (some 24) rfl rfl Tryz.func5 (by kernel_rfl) rfl #[.string a1, .int .i64 a2] rfl (by (try simp only [List.map_toArray, List.map_cons, List.map_nil]); first | done | rfl | (simp only [List.length_drop, List.length_take]; rfl)) ?_; (with_reducible refine (lex_Word.calls k a1 a2 t172 t173 _ A7.out).mono ?_); rintro e w50 ⟨rfl, hb⟩; refine ⟨_, rfl, ?_⟩; have n0_ := Aside0.mk (below_step (by repeat (first | (with_reducible first | exact HB.out | apply below_alloc | apply pw_below_drewN | apply below_drew1) | exact HB.out)) hb); clear HB; have HB := n0_; clear n0_; (try clear hb); (try clear hb2); (try clear hk); (try clear hi)) | ((with_reducible refine gate_callee (f := 6) rfl ?_); refine goesL_ (some 30) rfl rfl Tryz.func6 (by kernel_rfl) rfl #[.string a1, .int .i64 a2] rfl (by (try simp only [List.map_toArray, List.map_cons, List.map_nil]); first | done | rfl | (simp only [List.length_drop, List.length_take]; rfl)) ?_; (with_reducible refine (hornbookref03_Word.calls k a1 a2 t174 t175 _ A8.out).mono ?_); rintro e w51 ⟨rfl, hb⟩; refine ⟨_, rfl, ?_⟩; have n0_ := Aside0.mk (below_step (by repeat (first | (with_reducible first | exact HB.out | apply below_alloc | apply pw_below_drewN | apply below_drew1) | exact HB.out)) hb); clear HB; have HB := n0_; clear n0_; (try clear hb); (try clear hb2); (try clear hk); (try clear hi)) | ((with_reducible refine gate_callee (f := 7) rfl ?_); refine goesL_ (some 35) rfl rfl Tryz.func7 (by kernel_rfl) rfl #[.string a1] rfl (by (try simp only [List.map_toArray, List.map_cons, List.map_nil]); first | done | rfl | (simp only [List.length_drop, List.length_take]; rfl)) ?_; (with_reducible refine (lex_Int.calls a1 t176 t177 _ ?side1 A9.out).mono ?_); (case side1 => exact GW.below (by repeat (first | (with_reducible first | exact HB.out | apply below_alloc | apply pw_below_drewN | apply below_drew1) | exact HB.out)) HG.out); rintro e w52 ⟨rfl, hb⟩; refine ⟨_, rfl, ?_⟩; have n0_ := Aside0.mk (below_step (by repeat (first | (with_reducible first | exact HB.out | apply below_alloc | apply pw_below_drewN | apply below_drew1) | exact HB.out)) hb); clear HB; have HB := n0_; clear n0_; (try clear hb); (try clear hb2); (try clear hk); (try clear hi)) | ((with_reducible refine gate_callee (f := 8) rfl ?_); refine goesL_ (some 40) rfl rfl Tryz.func8 (by kernel_rfl) rfl #[.string a1] rfl (by (try simp only [List.map_toArray, List.map_cons, List.map_nil]); first | done | rfl | (simp only [List.length_drop, List.length_take]; rfl)) ?_; (with_reducible refine (hornbookref03_Int.calls k a1 t178 t179 _ A10.out).mono ?_); rintro e w53 ⟨rfl, hb⟩; refine ⟨_, rfl, ?_⟩; have n0_ := Aside0.mk (below_step (by repeat (first | (with_reducible first | exact HB.out | apply below_alloc | apply pw_below_drewN | apply below_drew1) | exact HB.out)) hb); clear HB; have HB := n0_; clear n0_; (try clear hb); (try clear hb2); (try clear hk); (try clear hi)) | (go_at_call 9; (with_reducible refine (lex_Class.calls k a0 t180 _ A12.out).mono ?_); rintro e w54 ⟨rfl, hb⟩; have n0_ := Aside0.mk (below_step (by repeat (first | (with_reducible first | exact HB.out | apply below_alloc | apply pw_below_drewN | apply below_drew1) | exact HB.out)) hb); clear HB; have HB := n0_; clear n0_; (try clear hb); (try clear hb2); (try clear hk); (try clear hi)) | (go_at_call 10; (with_reducible refine (hornbookref03_Class.calls k a0 t181 _ A13.out).mono ?_); rintro e w' ⟨rfl, ⟨nd, rfl⟩⟩) | (go_at_call 11; (with_reducible refine (lex_Skip.calls k a1 a2 t182 _ A15.out).mono ?_); rintro e w55 ⟨rfl, hb⟩; have n0_ := Aside0.mk (below_step (by repeat (first | (with_reducible first | exact HB.out | apply below_alloc | apply pw_below_drewN | apply below_drew1) | exact HB.out)) hb); clear HB; have HB := n0_; clear n0_; (try clear hb); (try clear hb2); (try clear hk); (try clear hi)) | (go_at_call 12; (with_reducible refine (hornbookref03_Skip.calls k a1 a2 t183 _ A16.out).mono ?_); rintro e w56 ⟨rfl, hb⟩; have n0_ := Aside0.mk (below_step (by repeat (first | (with_reducible first | exact HB.out | apply below_alloc | apply pw_below_drewN | apply below_drew1) | exact HB.out)) hb); clear HB; have HB := n0_; clear n0_; (try clear hb); (try clear hb2); (try clear hk); (try clear hi)))
                  go_ret
                  exact ⟨by first | rfl | (simp [errW_none, errW_some] <;> rfl) | (simp [*, errW_none, errW_some] <;> rfl), by repeat (first | (with_reducible first | exact HB.out | apply below_alloc | apply pw_below_drewN | apply below_drew1) | exact HB.out)⟩
              · rw [if_neg c20] at H
                have c20b0 : (t176 == t178) = false := beq_eq_false_iff_ne.mpr c20
                have c20b1 : (t176 != t178) = true := bne_iff_ne.mpr c20
                obtain rfl := Option.some.inj H
                go_enter Tryz.func3, Tryz.ntmps3
                go_wp2_with (first | ((with_reducible refine gate_callee (f := 4) rfl ?_); refine goesL_ (some 16) rfl rfl Tryz.func4 (by kernel_rfl) rfl #[] rfl (by (try simp only [List.map_toArray, List.map_cons, List.map_nil]); first | done | rfl | (simp only [List.length_drop, List.length_take]; rfl)) ?_; (with_reducible refine (hornbooklaw03_awake.calls k  true _ ?side1 A4.out).mono ?_); (case side1 => exact GW.below (by repeat (first | (with_reducible first | exact HB.out | apply below_alloc | apply pw_below_drewN | apply below_drew1) | exact HB.out)) HG.out); rintro e w57 ⟨rfl, hb⟩; refine ⟨_, rfl, ?_⟩; have n0_ := Aside0.mk (below_step (by repeat (first | (with_reducible first | exact HB.out | apply below_alloc | apply pw_below_drewN | apply below_drew1) | exact HB.out)) hb); clear HB; have HB := n0_; clear n0_; (try clear hb); (try clear hb2); (try clear hk); (try clear hi)) | ((with_reducible refine gate_callee (f := 5) rfl ?_); refine goesL_ (some 24) rfl rfl Tryz.func5 (by kernel_rfl) rfl #[.string a1, .int .i64 a2] rfl (by (try simp only [List.map_toArray, List.map_cons, List.map_nil]); first | done | rfl | (simp only [List.length_drop, List.length_take]; rfl)) ?_; (with_reducible refine (lex_Word.calls k a1 a2 t172 t173 _ A7.out).mono ?_); rintro e w58 ⟨rfl, hb⟩; refine ⟨_, rfl, ?_⟩; have n0_ := Aside0.mk (below_step (by repeat (first | (with_reducible first | exact HB.out | apply below_alloc | apply pw_below_drewN | apply below_drew1) | exact HB.out)) hb); clear HB; have HB := n0_; clear n0_; (try clear hb); (try clear hb2); (try clear hk); (try clear hi)) | ((with_reducible refine gate_callee (f := 6) rfl ?_); refine goesL_ (some 30) rfl rfl Tryz.func6 (by kernel_rfl) rfl #[.string a1, .int .i64 a2] rfl (by (try simp only [List.map_toArray, List.map_cons, List.map_nil]); first | done | rfl | (simp only [List.length_drop, List.length_take]; rfl)) ?_; (with_reducible refine (hornbookref03_Word.calls k a1 a2 t174 t175 _ A8.out).mono ?_); rintro e w59 ⟨rfl, hb⟩; refine ⟨_, rfl, ?_⟩; have n0_ := Aside0.mk (below_step (by repeat (first | (with_reducible first | exact HB.out | apply below_alloc | apply pw_below_drewN | apply below_drew1) | exact HB.out)) hb); clear HB; have HB := n0_; clear n0_; (try clear hb); (try clear hb2); (try clear hk); (try clear hi)) | ((with_reducible refine gate_callee (f := 7) rfl ?_); refine goesL_ (some 35) rfl rfl Tryz.func7 (by kernel_rfl) rfl #[.string a1] rfl (by (try simp only [List.map_toArray, List.map_cons, List.map_nil]); first | done | rfl | (simp only [List.length_drop, List.length_take]; rfl)) ?_; (with_reducible refine (lex_Int.calls a1 t176 t177 _ ?side1 A9.out).mono ?_); (case side1 => exact GW.below (by repeat (first | (with_reducible first | exact HB.out | apply below_alloc | apply pw_below_drewN | apply below_drew1) | exact HB.out)) HG.out); rintro e w60 ⟨rfl, hb⟩; refine ⟨_, rfl, ?_⟩; have n0_ := Aside0.mk (below_step (by repeat (first | (with_reducible first | exact HB.out | apply below_alloc | apply pw_below_drewN | apply below_drew1) | exact HB.out)) hb); clear HB; have HB := n0_; clear n0_; (try clear hb); (try clear hb2); (try clear hk); (try clear hi)) | ((with_reducible refine gate_callee (f := 8) rfl ?_); refine goesL_ (some 40) rfl rfl Tryz.func8 (by kernel_rfl) rfl #[.string a1] rfl (by (try simp only [List.map_toArray, List.map_cons, List.map_nil]); first | done | rfl | (simp only [List.length_drop, List.length_take]; rfl)) ?_; (with_reducible refine (hornbookref03_Int.calls k a1 t178 t179 _ A10.out).mono ?_); rintro e w61 ⟨rfl, hb⟩; refine ⟨_, rfl, ?_⟩; have n0_ := Aside0.mk (below_step (by repeat (first | (with_reducible first | exact HB.out | apply below_alloc | apply pw_below_drewN | apply below_drew1) | exact HB.out)) hb); clear HB; have HB := n0_; clear n0_; (try clear hb); (try clear hb2); (try clear hk); (try clear hi)) | (go_at_call 9; (with_reducible refine (lex_Class.calls k a0 t180 _ A12.out).mono ?_); rintro e w62 ⟨rfl, hb⟩; have n0_ := Aside0.mk (below_step (by repeat (first | (with_reducible first | exact HB.out | apply below_alloc | apply pw_below_drewN | apply below_drew1) | exact HB.out)) hb); clear HB; have HB := n0_; clear n0_; (try clear hb); (try clear hb2); (try clear hk); (try clear hi)) | (go_at_call 10; (with_reducible refine (hornbookref03_Class.calls k a0 t181 _ A13.out).mono ?_); rintro e w' ⟨rfl, ⟨nd, rfl⟩⟩) | (go_at_call 11; (with_reducible refine (lex_Skip.calls k a1 a2 t182 _ A15.out).mono ?_); rintro e w63 ⟨rfl, hb⟩; have n0_ := Aside0.mk (below_step (by repeat (first | (with_reducible first | exact HB.out | apply below_alloc | apply pw_below_drewN | apply below_drew1) | exact HB.out)) hb); clear HB; have HB := n0_; clear n0_; (try clear hb); (try clear hb2); (try clear hk); (try clear hi)) | (go_at_call 12; (with_reducible refine (hornbookref03_Skip.calls k a1 a2 t183 _ A16.out).mono ?_); rintro e w64 ⟨rfl, hb⟩; have n0_ := Aside0.mk (below_step (by repeat (first | (with_reducible first | exact HB.out | apply below_alloc | apply pw_below_drewN | apply below_drew1) | exact HB.out)) hb); clear HB; have HB := n0_; clear n0_; (try clear hb); (try clear hb2); (try clear hk); (try clear hi)))
                go_ret
                exact ⟨by first | rfl | (simp [errW_none, errW_some] <;> rfl) | (simp [*, errW_none, errW_some] <;> rfl), by repeat (first | (with_reducible first | exact HB.out | apply below_alloc | apply pw_below_drewN | apply below_drew1) | exact HB.out)⟩
            · rw [if_neg c19] at H
              have c19b0 : (t173 == t175) = false := beq_eq_false_iff_ne.mpr c19
              have c19b1 : (t173 != t175) = true := bne_iff_ne.mpr c19
              obtain rfl := Option.some.inj H
              go_enter Tryz.func3, Tryz.ntmps3
              go_wp2_with (first | ((with_reducible refine gate_callee (f := 4) rfl ?_); refine goesL_ (some 16) rfl rfl Tryz.func4 (by kernel_rfl) rfl #[] rfl (by (try simp only [List.map_toArray, List.map_cons, List.map_nil]); first | done | rfl | (simp only [List.length_drop, List.length_take]; rfl)) ?_; (with_reducible refine (hornbooklaw03_awake.calls k  true _ ?side1 A4.out).mono ?_); (case side1 => exact GW.below (by repeat (first | (with_reducible first | exact HB.out | apply below_alloc | apply pw_below_drewN | apply below_drew1) | exact HB.out)) HG.out); rintro e w65 ⟨rfl, hb⟩; refine ⟨_, rfl, ?_⟩; have n0_ := Aside0.mk (below_step (by repeat (first | (with_reducible first | exact HB.out | apply below_alloc | apply pw_below_drewN | apply below_drew1) | exact HB.out)) hb); clear HB; have HB := n0_; clear n0_; (try clear hb); (try clear hb2); (try clear hk); (try clear hi)) | ((with_reducible refine gate_callee (f := 5) rfl ?_); refine goesL_ (some 24) rfl rfl Tryz.func5 (by kernel_rfl) rfl #[.string a1, .int .i64 a2] rfl (by (try simp only [List.map_toArray, List.map_cons, List.map_nil]); first | done | rfl | (simp only [List.length_drop, List.length_take]; rfl)) ?_; (with_reducible refine (lex_Word.calls k a1 a2 t172 t173 _ A7.out).mono ?_); rintro e w66 ⟨rfl, hb⟩; refine ⟨_, rfl, ?_⟩; have n0_ := Aside0.mk (below_step (by repeat (first | (with_reducible first | exact HB.out | apply below_alloc | apply pw_below_drewN | apply below_drew1) | exact HB.out)) hb); clear HB; have HB := n0_; clear n0_; (try clear hb); (try clear hb2); (try clear hk); (try clear hi)) | ((with_reducible refine gate_callee (f := 6) rfl ?_); refine goesL_ (some 30) rfl rfl Tryz.func6 (by kernel_rfl) rfl #[.string a1, .int .i64 a2] rfl (by (try simp only [List.map_toArray, List.map_cons, List.map_nil]); first | done | rfl | (simp only [List.length_drop, List.length_take]; rfl)) ?_; (with_reducible refine (hornbookref03_Word.calls k a1 a2 t174 t175 _ A8.out).mono ?_); rintro e w67 ⟨rfl, hb⟩; refine ⟨_, rfl, ?_⟩; have n0_ := Aside0.mk (below_step (by repeat (first | (with_reducible first | exact HB.out | apply below_alloc | apply pw_below_drewN | apply below_drew1) | exact HB.out)) hb); clear HB; have HB := n0_; clear n0_; (try clear hb); (try clear hb2); (try clear hk); (try clear hi)) | ((with_reducible refine gate_callee (f := 7) rfl ?_); refine goesL_ (some 35) rfl rfl Tryz.func7 (by kernel_rfl) rfl #[.string a1] rfl (by (try simp only [List.map_toArray, List.map_cons, List.map_nil]); first | done | rfl | (simp only [List.length_drop, List.length_take]; rfl)) ?_; (with_reducible refine (lex_Int.calls a1 t176 t177 _ ?side1 A9.out).mono ?_); (case side1 => exact GW.below (by repeat (first | (with_reducible first | exact HB.out | apply below_alloc | apply pw_below_drewN | apply below_drew1) | exact HB.out)) HG.out); rintro e w68 ⟨rfl, hb⟩; refine ⟨_, rfl, ?_⟩; have n0_ := Aside0.mk (below_step (by repeat (first | (with_reducible first | exact HB.out | apply below_alloc | apply pw_below_drewN | apply below_drew1) | exact HB.out)) hb); clear HB; have HB := n0_; clear n0_; (try clear hb); (try clear hb2); (try clear hk); (try clear hi)) | ((with_reducible refine gate_callee (f := 8) rfl ?_); refine goesL_ (some 40) rfl rfl Tryz.func8 (by kernel_rfl) rfl #[.string a1] rfl (by (try simp only [List.map_toArray, List.map_cons, List.map_nil]); first | done | rfl | (simp only [List.length_drop, List.length_take]; rfl)) ?_; (with_reducible refine (hornbookref03_Int.calls k a1 t178 t179 _ A10.out).mono ?_); rintro e w69 ⟨rfl, hb⟩; refine ⟨_, rfl, ?_⟩; have n0_ := Aside0.mk (below_step (by repeat (first | (with_reducible first | exact HB.out | apply below_alloc | apply pw_below_drewN | apply below_drew1) | exact HB.out)) hb); clear HB; have HB := n0_; clear n0_; (try clear hb); (try clear hb2); (try clear hk); (try clear hi)) | (go_at_call 9; (with_reducible refine (lex_Class.calls k a0 t180 _ A12.out).mono ?_); rintro e w70 ⟨rfl, hb⟩; have n0_ := Aside0.mk (below_step (by repeat (first | (with_reducible first | exact HB.out | apply below_alloc | apply pw_below_drewN | apply below_drew1) | exact HB.out)) hb); clear HB; have HB := n0_; clear n0_; (try clear hb); (try clear hb2); (try clear hk); (try clear hi)) | (go_at_call 10; (with_reducible refine (hornbookref03_Class.calls k a0 t181 _ A13.out).mono ?_); rintro e w' ⟨rfl, ⟨nd, rfl⟩⟩) | (go_at_call 11; (with_reducible refine (lex_Skip.calls k a1 a2 t182 _ A15.out).mono ?_); rintro e w71 ⟨rfl, hb⟩; have n0_ := Aside0.mk (below_step (by repeat (first | (with_reducible first | exact HB.out | apply below_alloc | apply pw_below_drewN | apply below_drew1) | exact HB.out)) hb); clear HB; have HB := n0_; clear n0_; (try clear hb); (try clear hb2); (try clear hk); (try clear hi)) | (go_at_call 12; (with_reducible refine (hornbookref03_Skip.calls k a1 a2 t183 _ A16.out).mono ?_); rintro e w72 ⟨rfl, hb⟩; have n0_ := Aside0.mk (below_step (by repeat (first | (with_reducible first | exact HB.out | apply below_alloc | apply pw_below_drewN | apply below_drew1) | exact HB.out)) hb); clear HB; have HB := n0_; clear n0_; (try clear hb); (try clear hb2); (try clear hk); (try clear hi)))
              go_ret
              exact ⟨by first | rfl | (simp [errW_none, errW_some] <;> rfl) | (simp [*, errW_none, errW_some] <;> rfl), by repeat (first | (with_reducible first | exact HB.out | apply below_alloc | apply pw_below_drewN | apply below_drew1) | exact HB.out)⟩
          · rw [if_neg c18] at H
            have c18b0 : (t172.toList == t174.toList) = false := beq_eq_false_iff_ne.mpr c18
            have c18b1 : (t172.toList != t174.toList) = true := bne_iff_ne.mpr c18
            obtain rfl := Option.some.inj H
            go_enter Tryz.func3, Tryz.ntmps3
            go_wp2_with (first | ((with_reducible refine gate_callee (f := 4) rfl ?_); refine goesL_ (some 16) rfl rfl Tryz.func4 (by kernel_rfl) rfl #[] rfl (by (try simp only [List.map_toArray, List.map_cons, List.map_nil]); first | done | rfl | (simp only [List.length_drop, List.length_take]; rfl)) ?_; (with_reducible refine (hornbooklaw03_awake.calls k  true _ ?side1 A4.out).mono ?_); (case side1 => exact GW.below (by repeat (first | (with_reducible first | exact HB.out | apply below_alloc | apply pw_below_drewN | apply below_drew1) | exact HB.out)) HG.out); rintro e w73 ⟨rfl, hb⟩; refine ⟨_, rfl, ?_⟩; have n0_ := Aside0.mk (below_step (by repeat (first | (with_reducible first | exact HB.out | apply below_alloc | apply pw_below_drewN | apply below_drew1) | exact HB.out)) hb); clear HB; have HB := n0_; clear n0_; (try clear hb); (try clear hb2); (try clear hk); (try clear hi)) | ((with_reducible refine gate_callee (f := 5) rfl ?_); refine goesL_ (some 24) rfl rfl Tryz.func5 (by kernel_rfl) rfl #[.string a1, .int .i64 a2] rfl (by (try simp only [List.map_toArray, List.map_cons, List.map_nil]); first | done | rfl | (simp only [List.length_drop, List.length_take]; rfl)) ?_; (with_reducible refine (lex_Word.calls k a1 a2 t172 t173 _ A7.out).mono ?_); rintro e w74 ⟨rfl, hb⟩; refine ⟨_, rfl, ?_⟩; have n0_ := Aside0.mk (below_step (by repeat (first | (with_reducible first | exact HB.out | apply below_alloc | apply pw_below_drewN | apply below_drew1) | exact HB.out)) hb); clear HB; have HB := n0_; clear n0_; (try clear hb); (try clear hb2); (try clear hk); (try clear hi)) | ((with_reducible refine gate_callee (f := 6) rfl ?_); refine goesL_ (some 30) rfl rfl Tryz.func6 (by kernel_rfl) rfl #[.string a1, .int .i64 a2] rfl (by (try simp only [List.map_toArray, List.map_cons, List.map_nil]); first | done | rfl | (simp only [List.length_drop, List.length_take]; rfl)) ?_; (with_reducible refine (hornbookref03_Word.calls k a1 a2 t174 t175 _ A8.out).mono ?_); rintro e w75 ⟨rfl, hb⟩; refine ⟨_, rfl, ?_⟩; have n0_ := Aside0.mk (below_step (by repeat (first | (with_reducible first | exact HB.out | apply below_alloc | apply pw_below_drewN | apply below_drew1) | exact HB.out)) hb); clear HB; have HB := n0_; clear n0_; (try clear hb); (try clear hb2); (try clear hk); (try clear hi)) | ((with_reducible refine gate_callee (f := 7) rfl ?_); refine goesL_ (some 35) rfl rfl Tryz.func7 (by kernel_rfl) rfl #[.string a1] rfl (by (try simp only [List.map_toArray, List.map_cons, List.map_nil]); first | done | rfl | (simp only [List.length_drop, List.length_take]; rfl)) ?_; (with_reducible refine (lex_Int.calls a1 t176 t177 _ ?side1 A9.out).mono ?_); (case side1 => exact GW.below (by repeat (first | (with_reducible first | exact HB.out | apply below_alloc | apply pw_below_drewN | apply below_drew1) | exact HB.out)) HG.out); rintro e w76 ⟨rfl, hb⟩; refine ⟨_, rfl, ?_⟩; have n0_ := Aside0.mk (below_step (by repeat (first | (with_reducible first | exact HB.out | apply below_alloc | apply pw_below_drewN | apply below_drew1) | exact HB.out)) hb); clear HB; have HB := n0_; clear n0_; (try clear hb); (try clear hb2); (try clear hk); (try clear hi)) | ((with_reducible refine gate_callee (f := 8) rfl ?_); refine goesL_ (some 40) rfl rfl Tryz.func8 (by kernel_rfl) rfl #[.string a1] rfl (by (try simp only [List.map_toArray, List.map_cons, List.map_nil]); first | done | rfl | (simp only [List.length_drop, List.length_take]; rfl)) ?_; (with_reducible refine (hornbookref03_Int.calls k a1 t178 t179 _ A10.out).mono ?_); rintro e w77 ⟨rfl, hb⟩; refine ⟨_, rfl, ?_⟩; have n0_ := Aside0.mk (below_step (by repeat (first | (with_reducible first | exact HB.out | apply below_alloc | apply pw_below_drewN | apply below_drew1) | exact HB.out)) hb); clear HB; have HB := n0_; clear n0_; (try clear hb); (try clear hb2); (try clear hk); (try clear hi)) | (go_at_call 9; (with_reducible refine (lex_Class.calls k a0 t180 _ A12.out).mono ?_); rintro e w78 ⟨rfl, hb⟩; have n0_ := Aside0.mk (below_step (by repeat (first | (with_reducible first | exact HB.out | apply below_alloc | apply pw_below_drewN | apply below_drew1) | exact HB.out)) hb); clear HB; have HB := n0_; clear n0_; (try clear hb); (try clear hb2); (try clear hk); (try clear hi)) | (go_at_call 10; (with_reducible refine (hornbookref03_Class.calls k a0 t181 _ A13.out).mono ?_); rintro e w' ⟨rfl, ⟨nd, rfl⟩⟩) | (go_at_call 11; (with_reducible refine (lex_Skip.calls k a1 a2 t182 _ A15.out).mono ?_); rintro e w79 ⟨rfl, hb⟩; have n0_ := Aside0.mk (below_step (by repeat (first | (with_reducible first | exact HB.out | apply below_alloc | apply pw_below_drewN | apply below_drew1) | exact HB.out)) hb); clear HB; have HB := n0_; clear n0_; (try clear hb); (try clear hb2); (try clear hk); (try clear hi)) | (go_at_call 12; (with_reducible refine (hornbookref03_Skip.calls k a1 a2 t183 _ A16.out).mono ?_); rintro e w80 ⟨rfl, hb⟩; have n0_ := Aside0.mk (below_step (by repeat (first | (with_reducible first | exact HB.out | apply below_alloc | apply pw_below_drewN | apply below_drew1) | exact HB.out)) hb); clear HB; have HB := n0_; clear n0_; (try clear hb); (try clear hb2); (try clear hk); (try clear hi)))
            go_ret
            exact ⟨by first | rfl | (simp [errW_none, errW_some] <;> rfl) | (simp [*, errW_none, errW_some] <;> rfl), by repeat (first | (with_reducible first | exact HB.out | apply below_alloc | apply pw_below_drewN | apply below_drew1) | exact HB.out)⟩
        · rw [if_neg c17] at H
          have c17b0 : (t182 == t183) = false := beq_eq_false_iff_ne.mpr c17
          have c17b1 : (t182 != t183) = true := bne_iff_ne.mpr c17
          obtain rfl := Option.some.inj H
          go_enter Tryz.func3, Tryz.ntmps3
          go_wp2_with (first | ((with_reducible refine gate_callee (f := 4) rfl ?_); refine goesL_ (some 16) rfl rfl Tryz.func4 (by kernel_rfl) rfl #[] rfl (by (try simp only [List.map_toArray, List.map_cons, List.map_nil]); first | done | rfl | (simp only [List.length_drop, List.length_take]; rfl)) ?_; (with_reducible refine (hornbooklaw03_awake.calls k  true _ ?side1 A4.out).mono ?_); (case side1 => exact GW.below (by repeat (first | (with_reducible first | exact HB.out | apply below_alloc | apply pw_below_drewN | apply below_drew1) | exact HB.out)) HG.out); rintro e w81 ⟨rfl, hb⟩; refine ⟨_, rfl, ?_⟩; have n0_ := Aside0.mk (below_step (by repeat (first | (with_reducible first | exact HB.out | apply below_alloc | apply pw_below_drewN | apply below_drew1) | exact HB.out)) hb); clear HB; have HB := n0_; clear n0_; (try clear hb); (try clear hb2); (try clear hk); (try clear hi)) | ((with_reducible refine gate_callee (f := 5) rfl ?_); refine goesL_ (some 24) rfl rfl Tryz.func5 (by kernel_rfl) rfl #[.string a1, .int .i64 a2] rfl (by (try simp only [List.map_toArray, List.map_cons, List.map_nil]); first | done | rfl | (simp only [List.length_drop, List.length_take]; rfl)) ?_; (with_reducible refine (lex_Word.calls k a1 a2 t172 t173 _ A7.out).mono ?_); rintro e w82 ⟨rfl, hb⟩; refine ⟨_, rfl, ?_⟩; have n0_ := Aside0.mk (below_step (by repeat (first | (with_reducible first | exact HB.out | apply below_alloc | apply pw_below_drewN | apply below_drew1) | exact HB.out)) hb); clear HB; have HB := n0_; clear n0_; (try clear hb); (try clear hb2); (try clear hk); (try clear hi)) | ((with_reducible refine gate_callee (f := 6) rfl ?_); refine goesL_ (some 30) rfl rfl Tryz.func6 (by kernel_rfl) rfl #[.string a1, .int .i64 a2] rfl (by (try simp only [List.map_toArray, List.map_cons, List.map_nil]); first | done | rfl | (simp only [List.length_drop, List.length_take]; rfl)) ?_; (with_reducible refine (hornbookref03_Word.calls k a1 a2 t174 t175 _ A8.out).mono ?_); rintro e w83 ⟨rfl, hb⟩; refine ⟨_, rfl, ?_⟩; have n0_ := Aside0.mk (below_step (by repeat (first | (with_reducible first | exact HB.out | apply below_alloc | apply pw_below_drewN | apply below_drew1) | exact HB.out)) hb); clear HB; have HB := n0_; clear n0_; (try clear hb); (try clear hb2); (try clear hk); (try clear hi)) | ((with_reducible refine gate_callee (f := 7) rfl ?_); refine goesL_ (some 35) rfl rfl Tryz.func7 (by kernel_rfl) rfl #[.string a1] rfl (by (try simp only [List.map_toArray, List.map_cons, List.map_nil]); first | done | rfl | (simp only [List.length_drop, List.length_take]; rfl)) ?_; (with_reducible refine (lex_Int.calls a1 t176 t177 _ ?side1 A9.out).mono ?_); (case side1 => exact GW.below (by repeat (first | (with_reducible first | exact HB.out | apply below_alloc | apply pw_below_drewN | apply below_drew1) | exact HB.out)) HG.out); rintro e w84 ⟨rfl, hb⟩; refine ⟨_, rfl, ?_⟩; have n0_ := Aside0.mk (below_step (by repeat (first | (with_reducible first | exact HB.out | apply below_alloc | apply pw_below_drewN | apply below_drew1) | exact HB.out)) hb); clear HB; have HB := n0_; clear n0_; (try clear hb); (try clear hb2); (try clear hk); (try clear hi)) | ((with_reducible refine gate_callee (f := 8) rfl ?_); refine goesL_ (some 40) rfl rfl Tryz.func8 (by kernel_rfl) rfl #[.string a1] rfl (by (try simp only [List.map_toArray, List.map_cons, List.map_nil]); first | done | rfl | (simp only [List.length_drop, List.length_take]; rfl)) ?_; (with_reducible refine (hornbookref03_Int.calls k a1 t178 t179 _ A10.out).mono ?_); rintro e w85 ⟨rfl, hb⟩; refine ⟨_, rfl, ?_⟩; have n0_ := Aside0.mk (below_step (by repeat (first | (with_reducible first | exact HB.out | apply below_alloc | apply pw_below_drewN | apply below_drew1) | exact HB.out)) hb); clear HB; have HB := n0_; clear n0_; (try clear hb); (try clear hb2); (try clear hk); (try clear hi)) | (go_at_call 9; (with_reducible refine (lex_Class.calls k a0 t180 _ A12.out).mono ?_); rintro e w86 ⟨rfl, hb⟩; have n0_ := Aside0.mk (below_step (by repeat (first | (with_reducible first | exact HB.out | apply below_alloc | apply pw_below_drewN | apply below_drew1) | exact HB.out)) hb); clear HB; have HB := n0_; clear n0_; (try clear hb); (try clear hb2); (try clear hk); (try clear hi)) | (go_at_call 10; (with_reducible refine (hornbookref03_Class.calls k a0 t181 _ A13.out).mono ?_); rintro e w' ⟨rfl, ⟨nd, rfl⟩⟩) | (go_at_call 11; (with_reducible refine (lex_Skip.calls k a1 a2 t182 _ A15.out).mono ?_); rintro e w87 ⟨rfl, hb⟩; have n0_ := Aside0.mk (below_step (by repeat (first | (with_reducible first | exact HB.out | apply below_alloc | apply pw_below_drewN | apply below_drew1) | exact HB.out)) hb); clear HB; have HB := n0_; clear n0_; (try clear hb); (try clear hb2); (try clear hk); (try clear hi)) | (go_at_call 12; (with_reducible refine (hornbookref03_Skip.calls k a1 a2 t183 _ A16.out).mono ?_); rintro e w88 ⟨rfl, hb⟩; have n0_ := Aside0.mk (below_step (by repeat (first | (with_reducible first | exact HB.out | apply below_alloc | apply pw_below_drewN | apply below_drew1) | exact HB.out)) hb); clear HB; have HB := n0_; clear n0_; (try clear hb); (try clear hb2); (try clear hk); (try clear hi)))
          go_ret
          exact ⟨by first | rfl | (simp [errW_none, errW_some] <;> rfl) | (simp [*, errW_none, errW_some] <;> rfl), by repeat (first | (with_reducible first | exact HB.out | apply below_alloc | apply pw_below_drewN | apply below_drew1) | exact HB.out)⟩
      · rw [if_neg c14] at H
        have c14b0 : (t180 == t181) = false := beq_eq_false_iff_ne.mpr c14
        have c14b1 : (t180 != t181) = true := bne_iff_ne.mpr c14
        obtain rfl := Option.some.inj H
        go_enter Tryz.func3, Tryz.ntmps3
        go_wp2_with (first | ((with_reducible refine gate_callee (f := 4) rfl ?_); refine goesL_ (some 16) rfl rfl Tryz.func4 (by kernel_rfl) rfl #[] rfl (by (try simp only [List.map_toArray, List.map_cons, List.map_nil]); first | done | rfl | (simp only [List.length_drop, List.length_take]; rfl)) ?_; (with_reducible refine (hornbooklaw03_awake.calls k  true _ ?side1 A4.out).mono ?_); (case side1 => exact GW.below (by repeat (first | (with_reducible first | exact HB.out | apply below_alloc | apply pw_below_drewN | apply below_drew1) | exact HB.out)) HG.out); rintro e w89 ⟨rfl, hb⟩; refine ⟨_, rfl, ?_⟩; have n0_ := Aside0.mk (below_step (by repeat (first | (with_reducible first | exact HB.out | apply below_alloc | apply pw_below_drewN | apply below_drew1) | exact HB.out)) hb); clear HB; have HB := n0_; clear n0_; (try clear hb); (try clear hb2); (try clear hk); (try clear hi)) | ((with_reducible refine gate_callee (f := 5) rfl ?_); refine goesL_ (some 24) rfl rfl Tryz.func5 (by kernel_rfl) rfl #[.string a1, .int .i64 a2] rfl (by (try simp only [List.map_toArray, List.map_cons, List.map_nil]); first | done | rfl | (simp only [List.length_drop, List.length_take]; rfl)) ?_; (with_reducible refine (lex_Word.calls k a1 a2 t172 t173 _ A7.out).mono ?_); rintro e w90 ⟨rfl, hb⟩; refine ⟨_, rfl, ?_⟩; have n0_ := Aside0.mk (below_step (by repeat (first | (with_reducible first | exact HB.out | apply below_alloc | apply pw_below_drewN | apply below_drew1) | exact HB.out)) hb); clear HB; have HB := n0_; clear n0_; (try clear hb); (try clear hb2); (try clear hk); (try clear hi)) | ((with_reducible refine gate_callee (f := 6) rfl ?_); refine goesL_ (some 30) rfl rfl Tryz.func6 (by kernel_rfl) rfl #[.string a1, .int .i64 a2] rfl (by (try simp only [List.map_toArray, List.map_cons, List.map_nil]); first | done | rfl | (simp only [List.length_drop, List.length_take]; rfl)) ?_; (with_reducible refine (hornbookref03_Word.calls k a1 a2 t174 t175 _ A8.out).mono ?_); rintro e w91 ⟨rfl, hb⟩; refine ⟨_, rfl, ?_⟩; have n0_ := Aside0.mk (below_step (by repeat (first | (with_reducible first | exact HB.out | apply below_alloc | apply pw_below_drewN | apply below_drew1) | exact HB.out)) hb); clear HB; have HB := n0_; clear n0_; (try clear hb); (try clear hb2); (try clear hk); (try clear hi)) | ((with_reducible refine gate_callee (f := 7) rfl ?_); refine goesL_ (some 35) rfl rfl Tryz.func7 (by kernel_rfl) rfl #[.string a1] rfl (by (try simp only [List.map_toArray, List.map_cons, List.map_nil]); first | done | rfl | (simp only [List.length_drop, List.length_take]; rfl)) ?_; (with_reducible refine (lex_Int.calls a1 t176 t177 _ ?side1 A9.out).mono ?_); (case side1 => exact GW.below (by repeat (first | (with_reducible first | exact HB.out | apply below_alloc | apply pw_below_drewN | apply below_drew1) | exact HB.out)) HG.out); rintro e w92 ⟨rfl, hb⟩; refine ⟨_, rfl, ?_⟩; have n0_ := Aside0.mk (below_step (by repeat (first | (with_reducible first | exact HB.out | apply below_alloc | apply pw_below_drewN | apply below_drew1) | exact HB.out)) hb); clear HB; have HB := n0_; clear n0_; (try clear hb); (try clear hb2); (try clear hk); (try clear hi)) | ((with_reducible refine gate_callee (f := 8) rfl ?_); refine goesL_ (some 40) rfl rfl Tryz.func8 (by kernel_rfl) rfl #[.string a1] rfl (by (try simp only [List.map_toArray, List.map_cons, List.map_nil]); first | done | rfl | (simp only [List.length_drop, List.length_take]; rfl)) ?_; (with_reducible refine (hornbookref03_Int.calls k a1 t178 t179 _ A10.out).mono ?_); rintro e w93 ⟨rfl, hb⟩; refine ⟨_, rfl, ?_⟩; have n0_ := Aside0.mk (below_step (by repeat (first | (with_reducible first | exact HB.out | apply below_alloc | apply pw_below_drewN | apply below_drew1) | exact HB.out)) hb); clear HB; have HB := n0_; clear n0_; (try clear hb); (try clear hb2); (try clear hk); (try clear hi)) | (go_at_call 9; (with_reducible refine (lex_Class.calls k a0 t180 _ A12.out).mono ?_); rintro e w94 ⟨rfl, hb⟩; have n0_ := Aside0.mk (below_step (by repeat (first | (with_reducible first | exact HB.out | apply below_alloc | apply pw_below_drewN | apply below_drew1) | exact HB.out)) hb); clear HB; have HB := n0_; clear n0_; (try clear hb); (try clear hb2); (try clear hk); (try clear hi)) | (go_at_call 10; (with_reducible refine (hornbookref03_Class.calls k a0 t181 _ A13.out).mono ?_); rintro e w' ⟨rfl, ⟨nd, rfl⟩⟩))
        go_ret
        exact ⟨by first | rfl | (simp [errW_none, errW_some] <;> rfl) | (simp [*, errW_none, errW_some] <;> rfl), by repeat (first | (with_reducible first | exact HB.out | apply below_alloc | apply pw_below_drewN | apply below_drew1) | exact HB.out)⟩
    · replace c11 := Bool.eq_false_iff.mpr c11
      subst c11
      have H1 : (some false) = some r := by rw [if_neg (show ¬ (false = true) by decide)] at H; exact H
      clear H
      have H := H1
      clear H1
      obtain rfl := Option.some.inj H
      go_enter Tryz.func3, Tryz.ntmps3
      go_wp2_with (first | ((with_reducible refine gate_callee (f := 4) rfl ?_); refine goesL_ (some 16) rfl rfl Tryz.func4 (by kernel_rfl) rfl #[] rfl (by (try simp only [List.map_toArray, List.map_cons, List.map_nil]); first | done | rfl | (simp only [List.length_drop, List.length_take]; rfl)) ?_; (with_reducible refine (hornbooklaw03_awake.calls k  false _ ?side1 A4.out).mono ?_); (case side1 => exact GW.below (by repeat (first | (with_reducible first | exact HB.out | apply below_alloc | apply pw_below_drewN | apply below_drew1) | exact HB.out)) HG.out); rintro e w95 ⟨rfl, hb⟩; refine ⟨_, rfl, ?_⟩; have n0_ := Aside0.mk (below_step (by repeat (first | (with_reducible first | exact HB.out | apply below_alloc | apply pw_below_drewN | apply below_drew1) | exact HB.out)) hb); clear HB; have HB := n0_; clear n0_; (try clear hb); (try clear hb2); (try clear hk); (try clear hi)) | ((with_reducible refine gate_callee (f := 5) rfl ?_); refine goesL_ (some 24) rfl rfl Tryz.func5 (by kernel_rfl) rfl #[.string a1, .int .i64 a2] rfl (by (try simp only [List.map_toArray, List.map_cons, List.map_nil]); first | done | rfl | (simp only [List.length_drop, List.length_take]; rfl)) ?_; (with_reducible refine (lex_Word.calls k a1 a2 t172 t173 _ A7.out).mono ?_); rintro e w96 ⟨rfl, hb⟩; refine ⟨_, rfl, ?_⟩; have n0_ := Aside0.mk (below_step (by repeat (first | (with_reducible first | exact HB.out | apply below_alloc | apply pw_below_drewN | apply below_drew1) | exact HB.out)) hb); clear HB; have HB := n0_; clear n0_; (try clear hb); (try clear hb2); (try clear hk); (try clear hi)) | ((with_reducible refine gate_callee (f := 6) rfl ?_); refine goesL_ (some 30) rfl rfl Tryz.func6 (by kernel_rfl) rfl #[.string a1, .int .i64 a2] rfl (by (try simp only [List.map_toArray, List.map_cons, List.map_nil]); first | done | rfl | (simp only [List.length_drop, List.length_take]; rfl)) ?_; (with_reducible refine (hornbookref03_Word.calls k a1 a2 t174 t175 _ A8.out).mono ?_); rintro e w97 ⟨rfl, hb⟩; refine ⟨_, rfl, ?_⟩; have n0_ := Aside0.mk (below_step (by repeat (first | (with_reducible first | exact HB.out | apply below_alloc | apply pw_below_drewN | apply below_drew1) | exact HB.out)) hb); clear HB; have HB := n0_; clear n0_; (try clear hb); (try clear hb2); (try clear hk); (try clear hi)) | ((with_reducible refine gate_callee (f := 7) rfl ?_); refine goesL_ (some 35) rfl rfl Tryz.func7 (by kernel_rfl) rfl #[.string a1] rfl (by (try simp only [List.map_toArray, List.map_cons, List.map_nil]); first | done | rfl | (simp only [List.length_drop, List.length_take]; rfl)) ?_; (with_reducible refine (lex_Int.calls a1 t176 t177 _ ?side1 A9.out).mono ?_); (case side1 => exact GW.below (by repeat (first | (with_reducible first | exact HB.out | apply below_alloc | apply pw_below_drewN | apply below_drew1) | exact HB.out)) HG.out); rintro e w98 ⟨rfl, hb⟩; refine ⟨_, rfl, ?_⟩; have n0_ := Aside0.mk (below_step (by repeat (first | (with_reducible first | exact HB.out | apply below_alloc | apply pw_below_drewN | apply below_drew1) | exact HB.out)) hb); clear HB; have HB := n0_; clear n0_; (try clear hb); (try clear hb2); (try clear hk); (try clear hi)) | ((with_reducible refine gate_callee (f := 8) rfl ?_); refine goesL_ (some 40) rfl rfl Tryz.func8 (by kernel_rfl) rfl #[.string a1] rfl (by (try simp only [List.map_toArray, List.map_cons, List.map_nil]); first | done | rfl | (simp only [List.length_drop, List.length_take]; rfl)) ?_; (with_reducible refine (hornbookref03_Int.calls k a1 t178 t179 _ A10.out).mono ?_); rintro e w99 ⟨rfl, hb⟩; refine ⟨_, rfl, ?_⟩; have n0_ := Aside0.mk (below_step (by repeat (first | (with_reducible first | exact HB.out | apply below_alloc | apply pw_below_drewN | apply below_drew1) | exact HB.out)) hb); clear HB; have HB := n0_; clear n0_; (try clear hb); (try clear hb2); (try clear hk); (try clear hi)))
      go_ret
      exact ⟨by first | rfl | (simp [errW_none, errW_some] <;> rfl) | (simp [*, errW_none, errW_some] <;> rfl), by repeat (first | (with_reducible first | exact HB.out | apply below_alloc | apply pw_below_drewN | apply below_drew1) | exact HB.out)⟩
/-- THE ONE PURE STATEMENT of hornbooklaw03_LexIs: yours. -/
def hornbooklaw03_LexIs.Pure : Prop := ∀ (a0 : Int) (a1 : ByteArray) (a2 : Int), (Lit.int .i64 a0).wf = true → a1.size ≤ 140737488351232 → (Lit.int .i64 a2).wf = true → ∃ k, hornbooklaw03_LexIs.f k a0 a1 a2 = some true
theorem hornbooklaw03_LexIs.walk (P : hornbooklaw03_LexIs.Pure) (a0 : Int) (a1 : ByteArray) (a2 : Int) (w : World) (w0 : (Lit.int .i64 a0).wf = true) (w1 : a1.size ≤ 140737488351232) (w2 : (Lit.int .i64 a2).wf = true)(hG : GW w) :
    Calls Tryz.prog 3 #[.int .i64 a0, .string a1, .int .i64 a2] w fun e w' => e = .returned (.bool true) ∧ Below w.heap.size w w' := by
  obtain ⟨k, h⟩ := P a0 a1 a2 w0 w1 w2
  refine (hornbooklaw03_LexIs.calls k a0 a1 a2 true w hG h).mono ?_
  rintro e w' ⟨rfl, hd⟩
  exact ⟨rfl, hd⟩
end Go.Proofs.YtaolcbklpdodaaaGreatDoor.M
end
section
namespace Go.Proofs.YtaolcbklpdodaaaGreatDoor.M
open Go Go.RowKit
variable {H : Type} {enc : TypeId × Value → H}
theorem returns_both {a : Assume} {C : Checked} {os : Os} {f : FuncId} {fn : Func} {s : ChangeSpec} {conds : List PathCond} {apart fresh handsOn again : Bool} {X : World → Array Value → Prop}
    (hX : ∀ (w w' : World) (args : Array Value), w.heap = w'.heap → X w args → X w' args)
    (own : ownKnob C.prog.godebug = none) (started : os.Started) (noInit : C.prog.inits.idxOf? f = none) (hfn : C.prog.funcs[f]? = some fn)
    (witness : ∃ (w : World) (tape : Tape) (i : Input), w.os = os ∧ (w.forCall tape i).Shaped C.prog ∧ i.vars = [] ∧ Input.okWide C.prog (w.forCall tape i) .any w.heap.size f i ∧
      ((s.pre enc C.prog fn conds apart (w.forCall tape i).memory i.args ∧ X (w.forCall tape i).memory i.args) ∧ sizedMet enc C.prog fn (OpenSpec.ofChange s) apart (w.forCall tape i).memory i.args) ∧ a.holds C.prog (lone (Frame.enter C.prog f i.args .normal) [] (w.forCall tape i)))
    (contract : ∀ (W : World) (base : Nat) (args : Array Value) (ds gs : List (DataW H)) (before : List MemPlace),
      (∀ (j : Nat) t v, fn.params[j]? = some t → args[j]? = some v → Value.okWide C.prog W .any base t v) →
      DataW.Whole enc C.prog fn.params.toList s.vars apart W args.toList ds gs before →
      conds.all (PathCond.test C.prog ⟨fn.params.toList, ds, s.plain.varTypes C.prog, gs⟩) = true →
      (DataW.weightsEach C.prog (fn.params.toList ++ s.plain.varTypes C.prog) (ds ++ gs)).all (· ≤ reachBytes) = true → X W args → W.ShapedOpen C.prog →
      Calls C.prog f args W fun e W' => ∃ v, e = .returned v ∧ s.post enc C.prog fn apart fresh handsOn again W args v W') :
    ReturnsInHanded a C os f .any (fun w args => (s.pre enc C.prog fn conds apart w args ∧ X w args) ∧ sizedMet enc C.prog fn (OpenSpec.ofChange s) apart w args) (s.post enc C.prog fn apart fresh handsOn again) := by
  refine returnsInHanded_of_calls own started noInit witness ?_
  intro w tape i _ hsh _ hok hpre hholds
  obtain ⟨_, _, _, fn', hfn', _, _, _, _, hval⟩ := hok
  have e : fn' = fn := Option.some.inj (hfn'.symm.trans hfn)
  subst e
  obtain ⟨⟨⟨ds, gs, before, hw, hc⟩, hx⟩, hz⟩ := hpre
  have hw' := DataW.Whole.of_heap (w' := w.forCall tape i) (by rfl) hw
  refine (contract (w.forCall tape i) w.heap.size i.args ds gs before hval hw' hc (hz.weights hw) (hX _ _ _ (by rfl) hx) hsh).mono fun e W' ⟨v, he, hp⟩ => ?_
  subst he
  exact ChangeSpec.post_blind hp
theorem gw_star : "*" ++ "errors.errorString" = "*errors.errorString" := by decide
theorem gw_row (u : TypeId) (h : Tryz.prog.typeName? 3 u = some "*errors.errorString") : u = 101 :=
  typeName_ptr_named (nm := "errors.errorString") (by rw [gw_star]; kernel_rfl) (by kernel_rfl) (by decide) u (by rw [gw_star]; exact h)
/-- Out of a row's 'laid', from the two sentinels on, and the world's shape. -/
theorem GW.of_mets {r1 r2 : List (String × DataW Unit)} {t1 t2 : List UInt8} {W : World}
    (h1 : laidMet Tryz.prog (("strconv.ErrRange", .iface "*errors.errorString" (.ptr (.agg [.lit (.string t1)]))) :: r1) W)
    (h2 : laidMet Tryz.prog (("strconv.ErrSyntax", .iface "*errors.errorString" (.ptr (.agg [.lit (.string t2)]))) :: r2) W)
    (hsh : W.ShapedOpen Tryz.prog) : GW W := by
  obtain ⟨a0, s0, hv0, -, -, -⟩ := laid_sentinel h1 (g := 0) (ti := 34) (by kernel_rfl) (by kernel_rfl) Tryz.underlying34 gw_row Tryz.underlying101 Tryz.underlying103 rfl rfl Tryz.underlying9 (by kernel_rfl) (by kernel_rfl)
  obtain ⟨a1, s1, hv1, -, -, -⟩ := laid_sentinel h2 (g := 1) (ti := 34) (by kernel_rfl) (by kernel_rfl) Tryz.underlying34 gw_row Tryz.underlying101 Tryz.underlying103 rfl rfl Tryz.underlying9 (by kernel_rfl) (by kernel_rfl)
  have c0 := World.var?_cell (P := Tryz.prog) (g := 0) (by kernel_rfl) hv0 0
  have c1 := World.var?_cell (P := Tryz.prog) (g := 1) (by kernel_rfl) hv1 0
  obtain ⟨m, hm⟩ := cell_of_shapedOpen_int (P := Tryz.prog) (g := 2) (t := 3) (zero := #[.int .i64 0]) hsh (of_decide_eq_true (by kernel_rfl)) (by kernel_rfl) rfl (by kernel_rfl) (by kernel_rfl) Tryz.underlying3
  exact ⟨⟨a0, by simpa using c0⟩, ⟨a1, by simpa using c1⟩, ⟨m, hm⟩⟩
end Go.Proofs.YtaolcbklpdodaaaGreatDoor.M
end
section
namespace Go.Proofs.YtaolcbklpdodaaaGreatDoor.M
open Go.RowKit Go.Proofs.YtaolcbklpdodaaaGreatDoorW.PrintWords
set_option linter.unusedVariables false
def isRegB (c : UInt8) : Bool := clsOf c.toNat == 0
def wordAt (l : List UInt8) (i : Nat) : List UInt8 := (l.drop i).takeWhile isRegB
def placeN (s : ByteArray) (a : Int) : Nat := (max 0 (min a s.size)).toNat
theorem placeN_le (s : ByteArray) (a : Int) : placeN s a ≤ s.size := by unfold placeN; omega
theorem place_eq (s : ByteArray) (a : Int) : lex_place.f s a = some (placeN s a : Int) := by
  unfold lex_place.f placeN
  congr 1
  unfold mx mn
  repeat' split
  all_goals omega
theorem ba_size (l : List UInt8) : (⟨l.toArray⟩ : ByteArray).size = l.length := by show l.toArray.size = _; simp
theorem ba_list (l : List UInt8) : (⟨l.toArray⟩ : ByteArray).data.toList = l := by simp
theorem size_list (s : ByteArray) : s.size = s.data.toList.length := rfl
theorem ext_mid (s : ByteArray) (i j : Nat) : s.extract i j = ⟨((s.data.toList.drop i).take (j - i)).toArray⟩ := by
  rw [ba_eta (s.extract i j), Lib.extract_data]
theorem wrap_small {x : Int} (h0 : 0 ≤ x) (h1 : x < 9223372036854775808) : wrap64 x = x := by unfold wrap64; omega
theorem wordAt_cons (l : List UInt8) (i : Nat) (h : i < l.length) (hr : isRegB l[i] = true) : wordAt l i = l[i] :: wordAt l (i + 1) := by
  unfold wordAt
  rw [List.drop_eq_getElem_cons h, List.takeWhile_cons, if_pos hr]
theorem wordAt_stop (l : List UInt8) (i : Nat) (h : i < l.length) (hr : isRegB l[i] = false) : wordAt l i = [] := by
  unfold wordAt
  rw [List.drop_eq_getElem_cons h, List.takeWhile_cons, if_neg (by simp [hr])]
theorem wordAt_end (l : List UInt8) (i : Nat) (h : l.length ≤ i) : wordAt l i = [] := by
  unfold wordAt
  rw [List.drop_of_length_le h]; rfl
theorem cls_get (s : ByteArray) (i : Nat) (h : i < s.size) {k : Nat} (hk : 2 ≤ k) : lex_Class.f k (wrap64 (bt s i)) = some (clsOf (s.data.toList[i]'(by simpa using h)).toNat) := by
  have hr := bt_range s i
  rw [wrap_small hr.1 (by omega), bt_get s i h, class_eq hk]
theorem word_loop (s : ByteArray) (hs : s.size < 4611686018427387904) (a : Nat) (d : Nat) : ∀ (i k : Nat), s.size - i = d → i ≤ s.size → a ≤ i → d + 4 ≤ k →
    lex_Word.l0 k s a i = some (s.extract a (i + (wordAt s.data.toList i).length), ((i + (wordAt s.data.toList i).length : Nat) : Int)) := by
  induction d with
  | zero =>
    intro i k hd hi ha hk
    obtain ⟨k, rfl⟩ : ∃ m, k = m + 1 := ⟨k - 1, by omega⟩
    simp only [lex_Word.l0]
    rw [wordAt_end _ _ (by rw [← size_list]; omega), if_neg (by omega), if_pos (by omega), if_pos (by omega), if_pos (by omega)]
    simp
  | succ d ih =>
    intro i k hd hi ha hk
    obtain ⟨k, rfl⟩ : ∃ m, k = m + 1 := ⟨k - 1, by omega⟩
    have hlt : i < s.size := by omega
    have hl : i < s.data.toList.length := by rw [← size_list]; exact hlt
    simp only [lex_Word.l0]
    rw [if_pos (by omega), if_pos (by omega), cls_get s i hlt (by omega)]
    simp only [Option.bind_some]
    by_cases hr : isRegB s.data.toList[i] = true
    · have h0 : clsOf (s.data.toList[i]).toNat = 0 := by simpa [isRegB] using hr
      rw [if_pos h0, wrap_small (by omega) (by omega)]
      have := ih (i + 1) k (by omega) (by omega) (by omega) (by omega)
      rw [show ((i : Int) + 1) = ((i + 1 : Nat) : Int) by omega, this, wordAt_cons _ _ hl hr]
      simp only [List.length_cons]
      rw [show i + 1 + (wordAt s.data.toList (i + 1)).length = i + ((wordAt s.data.toList (i + 1)).length + 1) by omega]
    · have h0 : ¬ clsOf (s.data.toList[i]).toNat = 0 := by simpa [isRegB] using hr
      have hr' : isRegB s.data.toList[i] = false := by simpa using hr
      rw [if_neg h0, wordAt_stop _ _ hl hr', if_pos (by omega), if_pos (by omega), if_pos (by omega)]
      simp
/-- What Word tells. -/
theorem word_eq (s : ByteArray) (hs : s.size < 4611686018427387904) (a : Int) {k : Nat} (hk : s.size + 4 ≤ k) :
    lex_Word.f k s a = some (⟨(wordAt s.data.toList (placeN s a)).toArray⟩, ((placeN s a + (wordAt s.data.toList (placeN s a)).length : Nat) : Int)) := by
  unfold lex_Word.f
  rw [place_eq]
  simp only [Option.bind_some]
  rw [word_loop s hs (placeN s a) _ (placeN s a) k rfl (placeN_le s a) (Nat.le_refl _) (by omega), ext_mid]
  have e : (s.data.toList.drop (placeN s a)).take (placeN s a + (wordAt s.data.toList (placeN s a)).length - placeN s a) = wordAt s.data.toList (placeN s a) := by
    rw [Nat.add_sub_cancel_left]
    unfold wordAt
    exact (List.prefix_iff_eq_take.1 (List.takeWhile_prefix _)).symm
  rw [e]
end Go.Proofs.YtaolcbklpdodaaaGreatDoor.M
end
section
namespace Go.Proofs.YtaolcbklpdodaaaGreatDoor.M
open Go.RowKit Go.Proofs.YtaolcbklpdodaaaGreatDoorW.PrintWords
set_option linter.unusedVariables false
/-- The number that the digits spell, behind those that spell acc. -/
def digN (c : UInt8) : Nat := c.toNat - 48
def valD (acc : Nat) (l : List UInt8) : Nat := l.foldl (fun a c => a * 10 + digN c) acc
theorem valD_nil (acc : Nat) : valD acc [] = acc := rfl
theorem valD_cons (acc : Nat) (c : UInt8) (r : List UInt8) : valD acc (c :: r) = valD (acc * 10 + digN c) r := by
  unfold valD; rw [List.foldl_cons]
attribute [irreducible] valD
theorem valD_ge : ∀ (l : List UInt8) (acc : Nat), acc ≤ valD acc l
  | [], acc => Nat.le_of_eq (valD_nil acc).symm
  | c :: r, acc => by
    have := valD_ge r (acc * 10 + digN c)
    rw [valD_cons]; omega
theorem parseUintM_val : ∀ (l : List UInt8) (acc : Nat), acc ≤ 4294967295 → l.all isDigB = true → Lib.parseUintM 4294967295 acc l = if valD acc l ≤ 4294967295 then .ok (valD acc l) else .range
  | [], acc, ha, _ => by rw [valD_nil, if_pos ha, Lib.parseUintM]
  | c :: r, acc, ha, h => by
    simp only [List.all_cons, Bool.and_eq_true] at h
    have h1 := h.1
    simp only [isDigB, Bool.and_eq_true, decide_eq_true_eq] at h1
    rw [Lib.parseUintM, valD_cons, if_pos (by omega), if_neg (by omega)]
    have hd : digN c = c.toNat - 48 := rfl
    rw [← hd]
    by_cases hle : 4294967295 < acc * 10 + digN c
    · have := valD_ge r (acc * 10 + digN c)
      rw [if_pos hle, if_neg (by omega)]
    · rw [if_neg hle]
      exact parseUintM_val r _ (by omega) h.2
theorem parseUintB_val (l : List UInt8) (h0 : l ≠ []) (h : l.all isDigB = true) : Lib.parseUintB 32 l = if valD 0 l ≤ 4294967295 then .ok (valD 0 l) else .range := by
  unfold Lib.parseUintB
  rw [if_neg h0]
  exact parseUintM_val l 0 (by omega) h
theorem whole_digits (l : List UInt8) (h0 : l ≠ []) (h : l.all isDigB = true) : wholeB l = true := by
  match l, h0 with
  | c :: r, _ =>
    have hc : isDigB c = true := by simp only [List.all_cons, Bool.and_eq_true] at h; exact h.1
    have n1 : (c == 43) = false := by rw [beq_eq_false_iff_ne]; rintro rfl; exact absurd hc (by decide)
    have n2 : (c == 45) = false := by rw [beq_eq_false_iff_ne]; rintro rfl; exact absurd hc (by decide)
    have hu : unsign (c :: r) = c :: r := by
      simp only [unsign]
      rw [if_neg (by rw [n1, n2]; decide)]
    unfold wholeB
    rw [hu, h]; rfl
theorem whole_plus (l : List UInt8) (h0 : l ≠ []) (h : l.all isDigB = true) : wholeB (43 :: l) = true := by
  unfold wholeB unsign
  simp only [beq_self_eq_true, Bool.true_or, if_true, h, Bool.and_true]
  cases l with
  | nil => exact absurd rfl h0
  | cons c r => rfl
theorem whole_minus (l : List UInt8) (h0 : l ≠ []) (h : l.all isDigB = true) : wholeB (45 :: l) = true := by
  unfold wholeB unsign
  simp only [beq_self_eq_true, Bool.or_true, if_true, h, Bool.and_true]
  cases l with
  | nil => exact absurd rfl h0
  | cons c r => rfl
theorem lexInt_minus (l : List UInt8) (h0 : l ≠ []) (h : l.all isDigB = true) : lexInt (45 :: l) = if valD 0 l ≤ 2147483648 then (-(valD 0 l : Int), 0) else (0, 4) := by
  unfold lexInt
  rw [if_pos (whole_minus l h0 h), Lib.parseIntB_minus, parseUintB_val l h0 h]
  by_cases h1 : valD 0 l ≤ 2147483648
  · rw [if_pos h1, if_pos (by omega)]
    simp only [Lib.signedC]
    rw [if_neg (by omega)]
  · rw [if_neg h1]
    by_cases h2 : valD 0 l ≤ 4294967295
    · rw [if_pos h2]
      simp only [Lib.signedC]
      rw [if_pos (by omega)]
    · rw [if_neg h2]
      rfl
theorem signless_val (l : List UInt8) (h0 : l ≠ []) (h : l.all isDigB = true) : (match Lib.signlessC (2 ^ (32 - 1)) (Lib.parseUintB 32 l) with | .ok v => (v, 0) | _ => (0, 4)) = if valD 0 l ≤ 2147483647 then ((valD 0 l : Int), (0 : Int)) else (0, 4) := by
  rw [parseUintB_val l h0 h]
  by_cases h1 : valD 0 l ≤ 2147483647
  · rw [if_pos h1, if_pos (by omega)]
    simp only [Lib.signlessC]
    rw [if_neg (by omega)]
  · rw [if_neg h1]
    by_cases h2 : valD 0 l ≤ 4294967295
    · rw [if_pos h2]
      simp only [Lib.signlessC]
      rw [if_pos (by omega)]
    · rw [if_neg h2]
      rfl
theorem lexInt_plus (l : List UInt8) (h0 : l ≠ []) (h : l.all isDigB = true) : lexInt (43 :: l) = if valD 0 l ≤ 2147483647 then ((valD 0 l : Int), (0 : Int)) else (0, 4) := by
  unfold lexInt
  rw [if_pos (whole_plus l h0 h), Lib.parseIntB_plus]
  exact signless_val l h0 h
theorem lexInt_digits (l : List UInt8) (h0 : l ≠ []) (h : l.all isDigB = true) : lexInt l = if valD 0 l ≤ 2147483647 then ((valD 0 l : Int), (0 : Int)) else (0, 4) := by
  have hw := whole_digits l h0 h
  match l, h0 with
  | c :: r, h0 =>
    have hc : isDigB c = true := by simp only [List.all_cons, Bool.and_eq_true] at h; exact h.1
    simp only [isDigB, Bool.and_eq_true, decide_eq_true_eq] at hc
    unfold lexInt
    rw [if_pos hw, Lib.parseIntB_plain 32 c r (by omega) (by omega)]
    exact signless_val (c :: r) h0 h
theorem lexInt_none (l : List UInt8) (h : wholeB l = false) : lexInt l = (0, 3) := by
  unfold lexInt; rw [h]; rfl
theorem ba_app (x y : List UInt8) : ((⟨x.toArray⟩ : ByteArray) ++ (⟨y.toArray⟩ : ByteArray)) = ⟨(x ++ y).toArray⟩ := by
  rw [ba_eta (_ ++ _)]; simp
end Go.Proofs.YtaolcbklpdodaaaGreatDoor.M
end
section
namespace Go.Proofs.YtaolcbklpdodaaaGreatDoor.M
open Go.RowKit Go.Proofs.YtaolcbklpdodaaaGreatDoorW.PrintWords
set_option linter.unusedVariables false
def isNL (c : UInt8) : Bool := c == 10 || c == 13
/-- How many bytes are skipped; the first argument: in a remark. -/
def skipG : Bool → List UInt8 → Nat
  | _, [] => 0
  | true, c :: r => 1 + skipG (!isNL c) r
  | false, c :: r => if c == 37 then 1 + skipG true r else if clsOf c.toNat == 1 then 1 + skipG false r else 0
def nlAt (r : List UInt8) : Nat := (r.takeWhile (fun c => !isNL c)).length
theorem skipG_remark : ∀ r : List UInt8, skipG true r = if nlAt r < r.length then nlAt r + 1 + skipG false (r.drop (nlAt r + 1)) else r.length
  | [] => by simp [skipG, nlAt]
  | c :: r => by
    have ih := skipG_remark r
    simp only [skipG]
    cases hc : isNL c with
    | true =>
      have e : nlAt (c :: r) = 0 := by simp [nlAt, hc]
      rw [e, if_pos (by simp)]
      simp
    | false =>
      have e : nlAt (c :: r) = nlAt r + 1 := by simp [nlAt, hc]
      rw [e, Bool.not_false, ih]
      simp only [List.length_cons, List.drop_succ_cons]
      by_cases hl : nlAt r < r.length
      · rw [if_pos hl, if_pos (by omega)]; omega
      · rw [if_neg hl, if_neg (by omega)]; omega
/-- Where the remark ends, as the program finds it. -/
def endOf (r : List UInt8) : Int := if 0 ≤ Lib.indexByte r 13 ∧ (Lib.indexByte r 10 < 0 ∨ Lib.indexByte r 13 < Lib.indexByte r 10) then Lib.indexByte r 13 else Lib.indexByte r 10
theorem indexByte_cons (c : UInt8) (r : List UInt8) (x : UInt8) : Lib.indexByte (c :: r) x = if c = x then 0 else if Lib.indexByte r x = -1 then -1 else Lib.indexByte r x + 1 := by
  simp [Lib.indexByte]
theorem endOf_eq : ∀ r : List UInt8, endOf r = if nlAt r < r.length then (nlAt r : Int) else -1
  | [] => by simp [endOf, nlAt, Lib.indexByte]
  | c :: r => by
    have ih := endOf_eq r
    have ha := Lib.indexByte_ge r 10
    have hb := Lib.indexByte_ge r 13
    have ea := indexByte_cons c r 10
    have eb := indexByte_cons c r 13
    unfold endOf at ih ⊢
    generalize Lib.indexByte (c :: r) 10 = A at ea ⊢
    generalize Lib.indexByte (c :: r) 13 = B at eb ⊢
    generalize Lib.indexByte r 10 = a at ea ih ha
    generalize Lib.indexByte r 13 = b at eb ih hb
    by_cases h10 : c = 10
    · subst h10
      have e : nlAt (10 :: r) = 0 := by simp [nlAt, isNL]
      rw [if_pos rfl] at ea
      rw [if_neg (by decide)] at eb
      have hr : (if nlAt (10 :: r) < (10 :: r).length then ((nlAt (10 :: r) : Nat) : Int) else -1) = 0 := by rw [e]; simp
      rw [hr]
      split at eb <;> (split <;> omega)
    · by_cases h13 : c = 13
      · subst h13
        have e : nlAt (13 :: r) = 0 := by simp [nlAt, isNL]
        rw [if_pos rfl] at eb
        rw [if_neg (by decide)] at ea
        have hr : (if nlAt (13 :: r) < (13 :: r).length then ((nlAt (13 :: r) : Nat) : Int) else -1) = 0 := by rw [e]; simp
        rw [hr]
        split at ea <;> (split <;> omega)
      · have e : nlAt (c :: r) = nlAt r + 1 := by simp [nlAt, isNL, h10, h13]
        rw [if_neg h10] at ea
        rw [if_neg h13] at eb
        by_cases hn : nlAt r < r.length
        · rw [if_pos hn] at ih
          have hr : (if nlAt (c :: r) < (c :: r).length then ((nlAt (c :: r) : Nat) : Int) else -1) = ((nlAt r + 1 : Nat) : Int) := by rw [e, List.length_cons, if_pos (by omega)]
          rw [hr]
          split at ih <;> split at ea <;> split at eb <;> (split <;> omega)
        · rw [if_neg hn] at ih
          have hr : (if nlAt (c :: r) < (c :: r).length then ((nlAt (c :: r) : Nat) : Int) else -1) = -1 := by rw [e, List.length_cons, if_neg (by omega)]
          rw [hr]
          split at ih <;> split at ea <;> split at eb <;> (split <;> omega)
theorem skip_loop (s : ByteArray) (hs : s.size < 4611686018427387904) (d : Nat) : ∀ (i k : Nat), s.size - i ≤ d → i ≤ s.size → 2 * d + 4 ≤ k →
    lex_Skip.l0 k s i = some ((i + skipG false (s.data.toList.drop i) : Nat) : Int) := by
  induction d with
  | zero =>
    intro i k hd hi hk
    obtain ⟨k, rfl⟩ : ∃ m, k = m + 1 := ⟨k - 1, by omega⟩
    simp only [lex_Skip.l0]
    rw [if_neg (by omega), List.drop_of_length_le (by rw [← size_list]; omega)]
    simp [skipG]
  | succ d ih =>
    intro i k hd hi hk
    obtain ⟨k, rfl⟩ : ∃ m, k = m + 1 := ⟨k - 1, by omega⟩
    by_cases hlt : i < s.size
    · have hl : i < s.data.toList.length := by rw [← size_list]; exact hlt
      simp only [lex_Skip.l0]
      rw [if_pos (by omega), if_pos (by omega), bt_get s i hlt, List.drop_eq_getElem_cons hl]
      by_cases hc : (s.data.toList[i].toNat : Int) = 37
      · have hc' : s.data.toList[i] = 37 := UInt8.toNat_inj.1 (show s.data.toList[i].toNat = (37 : UInt8).toNat by have : (37 : UInt8).toNat = 37 := rfl; omega)
        rw [if_pos hc, if_pos (by omega)]
        obtain ⟨k, rfl⟩ : ∃ m, k = m + 1 := ⟨k - 1, by omega⟩
        have hx : s.extract (i : Int).toNat s.size = ⟨(s.data.toList.drop i).toArray⟩ := by rw [Int.toNat_natCast, ext_from]
        rw [hx]
        simp only [strings_IndexByte.f, Option.bind_some, show (Int.toNat 13).toUInt8 = 13 from rfl, show (Int.toNat 10).toUInt8 = 10 from rfl]
        have hb := Lib.indexByte_ge (s.data.toList.drop i) 13
        have ha := Lib.indexByte_ge (s.data.toList.drop i) 10
        have he := endOf_eq (s.data.toList.drop i)
        have hlen : (s.data.toList.drop i).length = s.size - i := by rw [List.length_drop, ← size_list]
        have hnl : nlAt (s.data.toList.drop i) ≤ (s.data.toList.drop i).length := by unfold nlAt; exact (List.takeWhile_prefix _).length_le
        have hsk : skipG false (s.data.toList[i] :: s.data.toList.drop (i + 1)) = skipG true (s.data.toList.drop i) := by
          rw [List.drop_eq_getElem_cons hl, hc']; simp [skipG, isNL]
        rw [hsk, skipG_remark]
        have key : lex_Skip.j1 (k + 1) s i (Lib.indexByte (s.data.toList.drop i) 10) (Lib.indexByte (s.data.toList.drop i) 13) (decide (0 ≤ Lib.indexByte (s.data.toList.drop i) 13 ∧ (Lib.indexByte (s.data.toList.drop i) 10 < 0 ∨ Lib.indexByte (s.data.toList.drop i) 13 < Lib.indexByte (s.data.toList.drop i) 10))) = if endOf (s.data.toList.drop i) < 0 then some (s.size : Int) else lex_Skip.l0 k s (wrap64 ((wrap64 (i + endOf (s.data.toList.drop i))) + 1)) := by
          by_cases hcnd : 0 ≤ Lib.indexByte (s.data.toList.drop i) 13 ∧ (Lib.indexByte (s.data.toList.drop i) 10 < 0 ∨ Lib.indexByte (s.data.toList.drop i) 13 < Lib.indexByte (s.data.toList.drop i) 10)
          · have e : endOf (s.data.toList.drop i) = Lib.indexByte (s.data.toList.drop i) 13 := by unfold endOf; rw [if_pos hcnd]
            rw [e, decide_eq_true hcnd, lex_Skip.j1, if_pos rfl]
          · have e : endOf (s.data.toList.drop i) = Lib.indexByte (s.data.toList.drop i) 10 := by unfold endOf; rw [if_neg hcnd]
            rw [e, decide_eq_false hcnd, lex_Skip.j1, if_neg (by decide)]
        have key2 : (if Lib.indexByte (s.data.toList.drop i) 13 ≥ 0 then (if Lib.indexByte (s.data.toList.drop i) 10 < 0 then lex_Skip.j1 (k + 1) s i (Lib.indexByte (s.data.toList.drop i) 10) (Lib.indexByte (s.data.toList.drop i) 13) true else lex_Skip.j1 (k + 1) s i (Lib.indexByte (s.data.toList.drop i) 10) (Lib.indexByte (s.data.toList.drop i) 13) (decide (Lib.indexByte (s.data.toList.drop i) 13 < Lib.indexByte (s.data.toList.drop i) 10))) else lex_Skip.j1 (k + 1) s i (Lib.indexByte (s.data.toList.drop i) 10) (Lib.indexByte (s.data.toList.drop i) 13) false) = lex_Skip.j1 (k + 1) s i (Lib.indexByte (s.data.toList.drop i) 10) (Lib.indexByte (s.data.toList.drop i) 13) (decide (0 ≤ Lib.indexByte (s.data.toList.drop i) 13 ∧ (Lib.indexByte (s.data.toList.drop i) 10 < 0 ∨ Lib.indexByte (s.data.toList.drop i) 13 < Lib.indexByte (s.data.toList.drop i) 10))) := by
          split
          · rename_i h1
            split
            · rename_i h2
              rw [decide_eq_true (show _ ∧ _ from ⟨h1, .inl h2⟩)]
            · rename_i h2
              congr 1
              rw [decide_eq_decide]
              constructor
              · intro h3; exact ⟨h1, .inr h3⟩
              · rintro ⟨_, h3 | h3⟩
                · exact absurd h3 h2
                · exact h3
          · rename_i h1
            rw [decide_eq_false (show ¬ (_ ∧ _) from fun h3 => h1 h3.1)]
        rw [key2, key]
        clear key key2 ha hb hx hc hc' hsk
        · rw [he]
          clear he
          have hih := fun (n : Nat) (h : n < (s.data.toList.drop i).length) => ih (i + n + 1) k (by omega) (by omega) (by omega)
          clear ih
          generalize (s.data.toList.drop i).length = L at *
          generalize hnn : nlAt (s.data.toList.drop i) = n at *
          clear hnn
          by_cases hn : n < L
          · rw [if_pos hn, if_pos hn, if_neg (by omega)]
            have e1 : wrap64 ((i : Int) + (n : Int)) = (i : Int) + (n : Int) := wrap_small (by omega) (by omega)
            have e2 : wrap64 ((i : Int) + (n : Int) + 1) = ((i + n + 1 : Nat) : Int) := by
              rw [wrap_small (by omega) (by omega)]; omega
            rw [e1, e2, hih n hn, List.drop_drop, show i + n + 1 = i + (n + 1) by omega, Nat.add_assoc]
          · rw [if_neg hn, if_neg hn, if_pos (by omega)]
            congr 1
            omega
      · have hc' : (s.data.toList[i] == 37) = false := by
          rw [beq_eq_false_iff_ne]; intro e; apply hc; rw [e]; rfl
        rw [if_neg hc, ← bt_get s i hlt, cls_get s i hlt (by omega)]
        simp only [Option.bind_some]
        have hr : skipG false (s.data.toList[i] :: s.data.toList.drop (i + 1)) = if clsOf (s.data.toList[i]).toNat == 1 then 1 + skipG false (s.data.toList.drop (i + 1)) else 0 := by
          rw [skipG, hc']; rfl
        rw [hr]
        by_cases h1 : clsOf (s.data.toList[i]).toNat = 1
        · rw [if_pos h1, if_pos (by simpa using h1), wrap_small (by omega) (by omega)]
          have := ih (i + 1) k (by omega) (by omega) (by omega)
          rw [show ((i : Int) + 1) = ((i + 1 : Nat) : Int) by omega, this]
          congr 1
          omega
        · rw [if_neg h1, if_neg (by simpa using h1)]
          rfl
    · simp only [lex_Skip.l0]
      rw [if_neg (by omega), List.drop_of_length_le (by rw [← size_list]; omega)]
      simp [skipG]
/-- What Skip tells. -/
def skipN (s : ByteArray) (a : Int) : Nat := placeN s a + skipG false (s.data.toList.drop (placeN s a))
theorem skip_eq (s : ByteArray) (hs : s.size < 4611686018427387904) (a : Int) {k : Nat} (hk : 2 * s.size + 4 ≤ k) : lex_Skip.f k s a = some (skipN s a : Int) := by
  unfold lex_Skip.f
  rw [place_eq]
  simp only [Option.bind_some]
  rw [skip_loop s hs s.size _ k (by omega) (placeN_le s a) hk]
  rfl
end Go.Proofs.YtaolcbklpdodaaaGreatDoor.M
end
section
namespace Go.Proofs.YtaolcbklpdodaaaGreatDoor.M
open Go.RowKit Go.Proofs.YtaolcbklpdodaaaGreatDoorW.PrintWords
theorem awake3_at : hornbooklaw03_awake.f 20 = some true := by decide +kernel
theorem awake3 {k : Nat} (hk : 20 ≤ k) : hornbooklaw03_awake.f k = some true := le_rounds (g := fun k => hornbooklaw03_awake.f k) (fun k => hornbooklaw03_awake.mono k) awake3_at hk
end Go.Proofs.YtaolcbklpdodaaaGreatDoor.M
end
section
namespace Go.Proofs.YtaolcbklpdodaaaGreatDoor.M
open Go.RowKit Go.Proofs.YtaolcbklpdodaaaGreatDoorW.PrintWords
set_option linter.unusedVariables false
theorem refWhite_eq (c : Int) : hornbookref01_White.f c = some (isWhite c) := by
  unfold hornbookref01_White.f isWhite
  by_cases h0 : c = 0
  · subst h0; rfl
  · by_cases h1 : c = 9
    · subst h1; rfl
    · by_cases h2 : c = 10
      · subst h2; rfl
      · by_cases h3 : c = 12
        · subst h3; rfl
        · by_cases h4 : c = 13
          · subst h4; rfl
          · simp [h0, h1, h2, h3, h4]
theorem refClass_loop (c : Int) (t : ByteArray) (ht : t.size < 4611686018427387904) (d : Nat) : ∀ (i k : Nat), t.size - i = d → i ≤ t.size → d + 1 ≤ k →
    hornbookref03_Class.l0 k c t i = some (if (t.data.toList.drop i).any (fun b => (b.toNat : Int) == c) then 2 else 0) := by
  induction d with
  | zero =>
    intro i k hd hi hk
    obtain ⟨k, rfl⟩ : ∃ m, k = m + 1 := ⟨k - 1, by omega⟩
    rw [hornbookref03_Class.l0, if_neg (by omega), List.drop_of_length_le (by rw [← size_list]; omega)]
    rfl
  | succ d ih =>
    intro i k hd hi hk
    obtain ⟨k, rfl⟩ : ∃ m, k = m + 1 := ⟨k - 1, by omega⟩
    have hlt : i < t.size := by omega
    have hl : i < t.data.toList.length := by rw [← size_list]; exact hlt
    have hr := bt_range t i
    rw [hornbookref03_Class.l0, if_pos (by omega), if_pos (by omega), wrap_small (x := bt t i) hr.1 (by omega), bt_get t i hlt, List.drop_eq_getElem_cons hl, List.any_cons]
    generalize t.data.toList[i] = b
    by_cases h : (b.toNat : Int) = c
    · rw [if_pos h, beq_iff_eq.2 h]; rfl
    · rw [if_neg h, beq_eq_false_iff_ne.2 h, Bool.false_or, wrap_small (by omega) (by omega), show ((i : Int) + 1) = ((i + 1 : Nat) : Int) by omega]
      exact ih (i + 1) k (by omega) (by omega) (by omega)
theorem white_not_delim (c : Int) (h : isWhite c = true) : isDelim c = false := by
  simp only [isWhite, Bool.or_eq_true, beq_iff_eq] at h
  rcases h with ((((h | h) | h) | h) | h) | h <;> (subst h; rfl)
theorem refClass_eq (c : Int) {k : Nat} (hk : 20 ≤ k) : hornbookref03_Class.f k c = some (clsOf c) := by
  unfold hornbookref03_Class.f
  rw [refWhite_eq]
  simp only [Option.bind_some]
  cases hw : isWhite c with
  | true => unfold clsOf; rw [white_not_delim c hw, hw]; rfl
  | false =>
    have z := refClass_loop c ⟨([40, 41, 60, 62, 91, 93, 123, 125, 47, 37] : List UInt8).toArray⟩ (by decide) _ 0 k rfl (by decide) (by show 10 - 0 + 1 ≤ k; omega)
    rw [List.drop_zero, ba_list] at z
    rw [if_neg (by decide)]
    refine z.trans ?_
    congr 1
    unfold clsOf
    rw [hw]
    have e : (([40, 41, 60, 62, 91, 93, 123, 125, 47, 37] : List UInt8).any fun b => (b.toNat : Int) == c) = isDelim c := by
      rw [Bool.eq_iff_iff, List.any_eq_true]
      simp only [isDelim, Bool.or_eq_true, beq_iff_eq]
      constructor
      · rintro ⟨b, hb, rfl⟩
        simp only [List.mem_cons, List.not_mem_nil, or_false] at hb
        rcases hb with rfl | rfl | rfl | rfl | rfl | rfl | rfl | rfl | rfl | rfl <;> decide
      · intro h
        refine ⟨UInt8.ofNat c.toNat, ?_, ?_⟩
        · rcases h with ((((((((h | h) | h) | h) | h) | h) | h) | h) | h) | h <;> (subst h; decide)
        · rcases h with ((((((((h | h) | h) | h) | h) | h) | h) | h) | h) | h <;> (subst h; decide)
    rw [e]
    cases isDelim c <;> rfl
theorem refCls_get (s : ByteArray) (i : Nat) (h : i < s.size) {k : Nat} (hk : 20 ≤ k) : hornbookref03_Class.f k (wrap64 (bt s i)) = some (clsOf (s.data.toList[i]'(by simpa using h)).toNat) := by
  have hr := bt_range s i
  rw [wrap_small hr.1 (by omega), bt_get s i h, refClass_eq _ hk]
theorem refPlace_eq (s : ByteArray) (a : Int) : hornbookref03_place.f s a = some (placeN s a : Int) := by
  have := place_eq s a
  unfold lex_place.f at this
  unfold hornbookref03_place.f
  exact this
theorem refWord_loop (s : ByteArray) (hs : s.size < 4611686018427387904) (a : Nat) (d : Nat) : ∀ (i k : Nat), s.size - i = d → i ≤ s.size → a ≤ i → d + 24 ≤ k →
    hornbookref03_Word.l0 k s a i = some (s.extract a (i + (wordAt s.data.toList i).length), ((i + (wordAt s.data.toList i).length : Nat) : Int)) := by
  induction d with
  | zero =>
    intro i k hd hi ha hk
    obtain ⟨k, rfl⟩ : ∃ m, k = m + 1 := ⟨k - 1, by omega⟩
    simp only [hornbookref03_Word.l0]
    rw [wordAt_end _ _ (by rw [← size_list]; omega), if_neg (by omega), if_pos (by omega), if_pos (by omega), if_pos (by omega)]
    simp
  | succ d ih =>
    intro i k hd hi ha hk
    obtain ⟨k, rfl⟩ : ∃ m, k = m + 1 := ⟨k - 1, by omega⟩
    have hlt : i < s.size := by omega
    have hl : i < s.data.toList.length := by rw [← size_list]; exact hlt
    simp only [hornbookref03_Word.l0]
    rw [if_pos (by omega), if_pos (by omega), refCls_get s i hlt (by omega)]
    simp only [Option.bind_some]
    by_cases hr : isRegB s.data.toList[i] = true
    · have h0 : clsOf (s.data.toList[i]).toNat = 0 := by simpa [isRegB] using hr
      rw [if_pos h0, wrap_small (by omega) (by omega)]
      have := ih (i + 1) k (by omega) (by omega) (by omega) (by omega)
      rw [show ((i : Int) + 1) = ((i + 1 : Nat) : Int) by omega, this, wordAt_cons _ _ hl hr]
      simp only [List.length_cons]
      rw [show i + 1 + (wordAt s.data.toList (i + 1)).length = i + ((wordAt s.data.toList (i + 1)).length + 1) by omega]
    · have h0 : ¬ clsOf (s.data.toList[i]).toNat = 0 := by simpa [isRegB] using hr
      have hr' : isRegB s.data.toList[i] = false := by simpa using hr
      rw [if_neg h0, wordAt_stop _ _ hl hr', if_pos (by omega), if_pos (by omega), if_pos (by omega)]
      simp
theorem refWord_eq (s : ByteArray) (hs : s.size < 4611686018427387904) (a : Int) {k : Nat} (hk : s.size + 24 ≤ k) :
    hornbookref03_Word.f k s a = some (⟨(wordAt s.data.toList (placeN s a)).toArray⟩, ((placeN s a + (wordAt s.data.toList (placeN s a)).length : Nat) : Int)) := by
  unfold hornbookref03_Word.f
  rw [refPlace_eq]
  simp only [Option.bind_some]
  rw [refWord_loop s hs (placeN s a) _ (placeN s a) k rfl (placeN_le s a) (Nat.le_refl _) (by omega), ext_mid]
  have e : (s.data.toList.drop (placeN s a)).take (placeN s a + (wordAt s.data.toList (placeN s a)).length - placeN s a) = wordAt s.data.toList (placeN s a) := by
    rw [Nat.add_sub_cancel_left]
    unfold wordAt
    exact (List.prefix_iff_eq_take.1 (List.takeWhile_prefix _)).symm
  rw [e]
theorem refSkip_loop (s : ByteArray) (hs : s.size < 4611686018427387904) (d : Nat) : ∀ (b : Bool) (i k : Nat), s.size - i = d → i ≤ s.size → d + 24 ≤ k →
    hornbookref03_Skip.l0 k s b i = some ((i + skipG b (s.data.toList.drop i) : Nat) : Int) := by
  induction d with
  | zero =>
    intro b i k hd hi hk
    obtain ⟨k, rfl⟩ : ∃ m, k = m + 1 := ⟨k - 1, by omega⟩
    rw [hornbookref03_Skip.l0, if_neg (by omega), List.drop_of_length_le (by rw [← size_list]; omega)]
    have e : i = s.size := by omega
    subst e
    cases b <;> simp [skipG]
  | succ d ih =>
    intro b i k hd hi hk
    obtain ⟨k, rfl⟩ : ∃ m, k = m + 1 := ⟨k - 1, by omega⟩
    have hlt : i < s.size := by omega
    have hl : i < s.data.toList.length := by rw [← size_list]; exact hlt
    have step := fun b' => ih b' (i + 1) k (by omega) (by omega) (by omega)
    have ec := refCls_get s i hlt (k := k) (by omega)
    rw [hornbookref03_Skip.l0, if_pos (by omega), if_pos (by omega), ec, bt_get s i hlt, wrap_small (x := (i : Int) + 1) (by omega) (by omega), show ((i : Int) + 1) = ((i + 1 : Nat) : Int) by omega, step, step, step, step, List.drop_eq_getElem_cons hl]
    clear step ih ec
    generalize s.data.toList[i] = c
    generalize s.data.toList.drop (i + 1) = r
    have h10 : ((c.toNat : Int) = 10) ↔ c = 10 := by rw [← UInt8.toNat_inj]; show (c.toNat : Int) = 10 ↔ c.toNat = 10; omega
    have h13 : ((c.toNat : Int) = 13) ↔ c = 13 := by rw [← UInt8.toNat_inj]; show (c.toNat : Int) = 13 ↔ c.toNat = 13; omega
    have h37 : ((c.toNat : Int) = 37) ↔ c = 37 := by rw [← UInt8.toNat_inj]; show (c.toNat : Int) = 37 ↔ c.toNat = 37; omega
    cases b with
    | true =>
      rw [if_pos rfl]
      by_cases e1 : c = 10
      · rw [if_pos (h10.2 e1)]
        have : isNL c = true := by rw [e1]; rfl
        simp only [skipG, this, Bool.not_true]
        congr 2; omega
      · rw [if_neg (fun e => e1 (h10.1 e))]
        have e2 : ((c.toNat : Int) != 13) = !isNL c := by
          rw [Bool.eq_iff_iff]
          simp only [isNL, bne_iff_ne, Bool.not_eq_true', Bool.or_eq_false_iff, beq_eq_false_iff_ne, ne_eq]
          constructor
          · intro h; exact ⟨e1, fun e => h (h13.2 e)⟩
          · rintro ⟨_, h⟩ e; exact h (h13.1 e)
        rw [e2]
        simp only [skipG]
        congr 2; omega
    | false =>
      rw [if_neg (by decide)]
      by_cases e1 : c = 37
      · rw [if_pos (h37.2 e1)]
        simp only [skipG]
        rw [if_pos (by rw [e1]; rfl)]
        congr 2; omega
      · have e1' : (c == 37) = false := beq_eq_false_iff_ne.2 e1
        rw [if_neg (fun e => e1 (h37.1 e))]
        simp only [Option.bind_some, skipG]
        simp only [e1', Bool.false_eq_true, if_false]
        by_cases h1 : clsOf c.toNat = 1
        · rw [if_pos h1, if_pos (by simpa using h1)]
          congr 2; omega
        · rw [if_neg h1, if_neg (by simpa using h1)]
          rfl
theorem refSkip_eq (s : ByteArray) (hs : s.size < 4611686018427387904) (a : Int) {k : Nat} (hk : s.size + 24 ≤ k) : hornbookref03_Skip.f k s a = some (skipN s a : Int) := by
  unfold hornbookref03_Skip.f
  rw [refPlace_eq]
  simp only [Option.bind_some]
  rw [refSkip_loop s hs _ false _ k rfl (placeN_le s a) (by omega)]
  rfl
theorem cap_step (v c : Nat) (hv : v ≤ 1099511627776) (hc : c ≤ 9) : mn (wrap64 ((wrap64 ((v : Int) * 10)) + (c : Int))) 1099511627776 = ((min (v * 10 + c) 1099511627776 : Nat) : Int) := by
  rw [wrap_small (x := (v : Int) * 10) (by omega) (by omega), wrap_small (by omega) (by omega)]
  unfold mn
  split <;> omega
def capD (acc : Nat) (l : List UInt8) : Nat := min (valD acc l) 1099511627776
theorem capD_step (acc : Nat) (c : UInt8) (r : List UInt8) : capD (min (acc * 10 + digN c) 1099511627776) r = capD acc (c :: r) := by
  unfold capD
  rw [valD_cons]
  by_cases h : acc * 10 + digN c ≤ 1099511627776
  · rw [Nat.min_eq_left h]
  · have h1 := valD_ge r (acc * 10 + digN c)
    have h2 := valD_ge r (min (acc * 10 + digN c) 1099511627776)
    omega
/-- What the document's number is, behind the digits. -/
def refEnd (neg : Bool) (v : Nat) : Int × Int := if neg then (if v ≤ 2147483648 then (-(v : Int), 0) else (0, 4)) else (if v ≤ 2147483647 then ((v : Int), 0) else (0, 4))
theorem refEnd_cap (neg : Bool) (l : List UInt8) : refEnd neg (capD 0 l) = refEnd neg (valD 0 l) := by
  unfold refEnd capD
  cases neg
  · simp only [Bool.false_eq_true, if_false]
    by_cases h : valD 0 l ≤ 2147483647
    · rw [if_pos h, Nat.min_eq_left (by omega), if_pos h]
    · rw [if_neg h, if_neg (by omega)]
  · simp only [if_true]
    by_cases h : valD 0 l ≤ 2147483648
    · rw [if_pos h, Nat.min_eq_left (by omega), if_pos h]
    · rw [if_neg h, if_neg (by omega)]
theorem ref_last (v : Nat) (hv : v ≤ 1099511627776) (b : Int) : (if b = 45 then (if (wrap64 (-(v : Int))) < (-2147483648) then (some ((0 : Int), (4 : Int))) else (if (wrap64 (-(v : Int))) > 2147483647 then (some (0, 4)) else (some (wrap64 (-(v : Int)), 0)))) else (if (v : Int) < (-2147483648) then (some (0, 4)) else (if (v : Int) > 2147483647 then (some (0, 4)) else (some ((v : Int), 0))))) = some (refEnd (b == 45) v) := by
  have hw : wrap64 (-(v : Int)) = -(v : Int) := by unfold wrap64; omega
  rw [hw]
  unfold refEnd
  by_cases hb : b = 45
  · rw [if_pos hb, beq_iff_eq.2 hb]
    simp only [if_true]
    by_cases h : v ≤ 2147483648
    · rw [if_neg (by omega), if_neg (by omega), if_pos h]
    · rw [if_pos (by omega), if_neg h]
  · rw [if_neg hb, beq_eq_false_iff_ne.2 hb]
    simp only [Bool.false_eq_true, if_false]
    rw [if_neg (by omega)]
    by_cases h : v ≤ 2147483647
    · rw [if_neg (by omega), if_pos h]
    · rw [if_pos (by omega), if_neg h]
theorem refInt_loop (s : ByteArray) (hs : s.size < 4611686018427387904) (h0 : 0 < s.size) (d : Nat) : ∀ (i k v : Nat), s.size - i = d → i ≤ s.size → v ≤ 1099511627776 → d + 4 ≤ k →
    hornbookref03_Int.l0 k s v i = if (s.data.toList.drop i).all isDigB then some (refEnd (bt s 0 == 45) (capD v (s.data.toList.drop i))) else some (0, 3) := by
  induction d with
  | zero =>
    intro i k v hd hi hv hk
    obtain ⟨k, rfl⟩ : ∃ m, k = m + 1 := ⟨k - 1, by omega⟩
    rw [hornbookref03_Int.l0, if_neg (by omega), if_pos (by omega), List.drop_of_length_le (by rw [← size_list]; omega), ref_last v hv]
    unfold capD
    rw [valD_nil, Nat.min_eq_left hv]; rfl
  | succ d ih =>
    intro i k v hd hi hv hk
    obtain ⟨k, rfl⟩ : ∃ m, k = m + 1 := ⟨k - 1, by omega⟩
    have hlt : i < s.size := by omega
    have hl : i < s.data.toList.length := by rw [← size_list]; exact hlt
    rw [hornbookref03_Int.l0, if_pos (by omega), if_pos (by omega), bt_get s i hlt, List.drop_eq_getElem_cons hl, List.all_cons]
    have step := fun v' hv' => ih (i + 1) k v' (by omega) (by omega) hv' (by omega)
    clear ih
    generalize s.data.toList[i] = c at *
    by_cases h1 : (c.toNat : Int) < 48
    · have : isDigB c = false := by unfold isDigB; rw [decide_eq_false (by omega : ¬ 48 ≤ c.toNat)]; rfl
      rw [if_pos h1, this]; rfl
    · by_cases h2 : (c.toNat : Int) > 57
      · have : isDigB c = false := by unfold isDigB; rw [decide_eq_false (by omega : ¬ c.toNat ≤ 57), Bool.and_false]
        rw [if_neg h1, if_pos h2, this]; rfl
      · have : isDigB c = true := by unfold isDigB; rw [decide_eq_true (by omega : 48 ≤ c.toNat), decide_eq_true (by omega : c.toNat ≤ 57)]; rfl
        have hd9 : digN c ≤ 9 := by unfold digN; omega
        have e1 : ((c.toNat : Int) - 48) % 256 = ((digN c : Nat) : Int) := by unfold digN; omega
        rw [if_neg h1, if_neg h2, this, Bool.true_and, e1, cap_step v _ hv hd9, wrap_small (by omega) (by omega), show ((i : Int) + 1) = ((i + 1 : Nat) : Int) by omega, step _ (by omega), capD_step]
theorem refInt_eq (l : List UInt8) (hs : l.length < 4611686018427387904) {k : Nat} (hk : l.length + 10 ≤ k) : hornbookref03_Int.f k ⟨l.toArray⟩ = some (lexInt l) := by
  have hz := ba_size l
  unfold hornbookref03_Int.f
  obtain ⟨k, rfl⟩ : ∃ m, k = m + 2 := ⟨k - 2, by omega⟩
  cases l with
  | nil =>
    rw [if_neg (by rw [hz]; simp), hornbookref03_Int.j0, if_neg (by decide), hornbookref03_Int.j1, if_pos (by rw [hz]; rfl)]
    rfl
  | cons c r =>
    rw [List.length_cons] at hz hs hk
    have hb : bt ⟨(c :: r).toArray⟩ 0 = (c.toNat : Int) := bt_get ⟨(c :: r).toArray⟩ 0 (by omega)
    have hd1 : (⟨(c :: r).toArray⟩ : ByteArray).data.toList.drop 1 = r := by rw [ba_list]; rfl
    have hd0 : (⟨(c :: r).toArray⟩ : ByteArray).data.toList.drop 0 = c :: r := by rw [ba_list]; rfl
    have signed : c = 43 ∨ c = 45 → hornbookref03_Int.j1 (k + 1) ⟨(c :: r).toArray⟩ 1 = some (lexInt (c :: r)) := by
      intro hc
      rw [hornbookref03_Int.j1]
      cases hr : r with
      | nil =>
        subst hr
        rw [if_pos (by rw [hz]; rfl)]
        rcases hc with rfl | rfl <;> rfl
      | cons x y =>
        rw [← hr]
        have h0 : r ≠ [] := by rw [hr]; simp
        have hrl : 0 < r.length := by rw [hr]; simp
        have z := refInt_loop ⟨(c :: r).toArray⟩ (by omega) (by omega) _ 1 k 0 rfl (by omega) (by omega) (by omega)
        rw [hd1, refEnd_cap, hb] at z
        rw [if_neg (by omega)]
        refine z.trans ?_
        cases hall : r.all isDigB with
        | true =>
          rw [if_pos rfl]
          rcases hc with rfl | rfl
          · rw [lexInt_plus r h0 hall]; rfl
          · rw [lexInt_minus r h0 hall]; rfl
        | false =>
          rw [if_neg (by decide), lexInt_none]
          unfold wholeB unsign
          rcases hc with rfl | rfl
          · simp [hall]
          · simp [hall]
    rw [if_pos (by omega), if_pos (by omega), hb]
    by_cases h43 : (c.toNat : Int) = 43
    · have e : c = 43 := UInt8.toNat_inj.1 (show c.toNat = (43 : UInt8).toNat by have : (43 : UInt8).toNat = 43 := rfl; omega)
      rw [if_pos h43, hornbookref03_Int.j0, if_pos rfl]
      exact signed (.inl e)
    · rw [if_neg h43]
      by_cases h45 : (c.toNat : Int) = 45
      · have e : c = 45 := UInt8.toNat_inj.1 (show c.toNat = (45 : UInt8).toNat by have : (45 : UInt8).toNat = 45 := rfl; omega)
        rw [beq_iff_eq.2 h45, hornbookref03_Int.j0, if_pos rfl]
        exact signed (.inr e)
      · rw [beq_eq_false_iff_ne.2 h45, hornbookref03_Int.j0, if_neg (by decide), hornbookref03_Int.j1, if_neg (by omega)]
        have z := refInt_loop ⟨(c :: r).toArray⟩ (by omega) (by omega) _ 0 k 0 rfl (by omega) (by omega) (by omega)
        rw [hd0, refEnd_cap, hb, beq_eq_false_iff_ne.2 h45] at z
        refine z.trans ?_
        cases hall : (c :: r).all isDigB with
        | true =>
          rw [if_pos rfl, lexInt_digits _ (by simp) hall]; rfl
        | false =>
          rw [if_neg (by decide), lexInt_none]
          have n1 : (c == 43) = false := by rw [beq_eq_false_iff_ne]; rintro rfl; exact h43 rfl
          have n2 : (c == 45) = false := by rw [beq_eq_false_iff_ne]; rintro rfl; exact h45 rfl
          unfold wholeB
          have hu : unsign (c :: r) = c :: r := by
            simp only [unsign]
            rw [if_neg (by rw [n1, n2]; decide)]
          rw [hu, hall, Bool.and_false]
theorem refDigit_eq {k : Nat} (hk : 20 ≤ k) (c : Int) (h0 : 0 ≤ c) (h1 : c ≤ 255) : hornbookref01_Digit.f k c = some ((hexVal c).getD 0, (hexVal c).isSome) := by
  have : ∀ n : Fin 256, hornbookref01_Digit.f 20 (n.val : Int) = some ((hexVal n.val).getD 0, (hexVal n.val).isSome) := by decide +kernel
  have h := this ⟨c.toNat, by omega⟩
  have e : ((c.toNat : Nat) : Int) = c := by omega
  simp only [e] at h
  exact le_rounds (g := fun k => hornbookref01_Digit.f k c) (fun k => hornbookref01_Digit.mono c k) h hk
theorem refHex_eq {k : Nat} (hk : 4 ≤ k) (c : UInt8) : hornbookref01_Hex.f k [(c.toNat : Int)] = some ⟨(hexOf c.toNat).toArray⟩ := by
  have : ∀ n : Fin 256, hornbookref01_Hex.f 4 [(n.val : Int)] = some ⟨(hexOf n.val).toArray⟩ := by decide +kernel
  have h := this ⟨c.toNat, c.toNat_lt⟩
  exact le_rounds (g := fun k => hornbookref01_Hex.f k [(c.toNat : Int)]) (fun k => hornbookref01_Hex.mono _ k) h hk
theorem u8_back (c : UInt8) : UInt8.ofNat ((c.toNat : Int)).toNat = c := by rw [Int.toNat_natCast]; exact UInt8.ofNat_toNat
def outOf (o : List Int) : List UInt8 := o.map fun n => UInt8.ofNat n.toNat
theorem outOf_str (o : List Int) : strOfNums o = ⟨(outOf o).toArray⟩ := rfl
theorem outOf_app (o : List Int) (n : Int) : outOf (o ++ [n]) = outOf o ++ [UInt8.ofNat n.toNat] := by simp [outOf]
theorem wrap_dig (x y : Int) (hx : 0 ≤ x ∧ x ≤ 15) (hy : 0 ≤ y ∧ y ≤ 15) : wrap64 (wrap64 (16 * x) + y) = 16 * x + y := by
  rw [wrap_small (x := 16 * x) (by omega) (by omega), wrap_small (by omega) (by omega)]
theorem wrap_next (n : Nat) (h : n < 4611686018427387904) : wrap64 ((n : Int) + 1) = ((n + 1 : Nat) : Int) := by
  exact wrap_small (x := ((n + 1 : Nat) : Int)) (by omega) (by omega)
theorem dig_byte (x y : Int) (hx : 0 ≤ x ∧ x ≤ 15) (hy : 0 ≤ y ∧ y ≤ 15) : UInt8.ofNat ((16 * x + y) % 256).toNat = (x * 16 + y).toNat.toUInt8 := by
  have : ((16 * x + y) % 256).toNat = (x * 16 + y).toNat := by omega
  rw [this]
theorem refName_loop (s : ByteArray) (hs : s.size ≤ 1000) (d : Nat) : ∀ (o : List Int) (i k : Nat), s.size - i ≤ d → i ≤ s.size → o.length ≤ i → 2 * d + 30 ≤ k →
    hornbookref03_Name.l0 k s o i = some ⟨(outOf o ++ nameGo (s.data.toList.drop i)).toArray⟩ := by
  induction d with
  | zero =>
    intro o i k hd hi ho hk
    obtain ⟨k, rfl⟩ : ∃ m, k = m + 1 := ⟨k - 1, by omega⟩
    rw [hornbookref03_Name.l0, if_neg (by omega), List.drop_of_length_le (by rw [← size_list]; omega), nameGo, List.append_nil, outOf_str]
  | succ d ih =>
    intro o i k hd hi ho hk
    obtain ⟨k, rfl⟩ : ∃ m, k = m + 2 := ⟨k - 2, by omega⟩
    by_cases hlt : i < s.size
    · have hl : i < s.data.toList.length := by rw [← size_list]; exact hlt
      have q1 : (0 : Int) ≤ (i : Int) := by omega
      have q2 : (i : Int) < (s.size : Int) := by omega
      have q3 : o.length < 140737488355328 := by omega
      have push : nameGo (s.data.toList[i] :: s.data.toList.drop (i + 1)) = s.data.toList[i] :: nameGo (s.data.toList.drop (i + 1)) →
          hornbookref03_Name.l0 k s (o ++ [bt s i]) (wrap64 ((i : Int) + 1)) = some ⟨(outOf o ++ nameGo (s.data.toList.drop i)).toArray⟩ := by
        intro hn
        rw [wrap_small (by omega) (by omega), show ((i : Int) + 1) = ((i + 1 : Nat) : Int) by omega, ih (o ++ [bt s i]) (i + 1) k (by omega) (by omega) (by simp; omega) (by omega),
          List.drop_eq_getElem_cons hl, hn, outOf_app, bt_get s i hlt, u8_back, List.append_assoc]
        rfl
      have short : nameGo (s.data.toList[i] :: s.data.toList.drop (i + 1)) = s.data.toList[i] :: nameGo (s.data.toList.drop (i + 1)) →
          hornbookref03_Name.j1 (k + 1) s o i false = some ⟨(outOf o ++ nameGo (s.data.toList.drop i)).toArray⟩ := by
        intro hn
        rw [hornbookref03_Name.j1, if_neg (by decide), if_pos (by omega), if_pos (by omega), if_pos (by omega)]
        exact push hn
      rw [hornbookref03_Name.l0, if_pos (by omega), if_pos (by omega)]
      by_cases h35 : bt s i = 35
      · rw [if_pos h35, wrap_small (x := (i : Int) + 2) (by omega) (by omega)]
        have ec : s.data.toList[i] = 35 := by
          rw [bt_get s i hlt] at h35
          exact UInt8.toNat_inj.1 (show s.data.toList[i].toNat = (35 : UInt8).toNat by have : (35 : UInt8).toNat = 35 := rfl; omega)
        by_cases h2 : i + 2 < s.size
        · have g1 : s.size - (i + 3) ≤ d := by omega
          have g2 : i + 3 ≤ s.size := by omega
          have g3 : ∀ n : Int, (o ++ [n]).length ≤ i + 3 := by intro n; simp; omega
          have g4 : 2 * d + 30 ≤ k := by omega
          have g5 : i + 2 < 4611686018427387904 := by omega
          have hl1 : i + 1 < s.data.toList.length := by rw [← size_list]; omega
          have hl2 : i + 2 < s.data.toList.length := by rw [← size_list]; omega
          have r1 := bt_range s (i + 1 : Nat)
          have r2 := bt_range s (i + 2 : Nat)
          have b1 := bt_get s (i + 1) (by omega)
          have b2 := bt_get s (i + 2) (by omega)
          rw [decide_eq_true (by omega), hornbookref03_Name.j1, if_pos (c := true = true) rfl, wrap_small (x := (i : Int) + 1) (by omega) (by omega), wrap_small (x := (i : Int) + 2) (by omega) (by omega),
            show ((i : Int) + 1) = ((i + 1 : Nat) : Int) by omega, show ((i : Int) + 2) = ((i + 2 : Nat) : Int) by omega,
            wrap_small (x := bt s (i + 1 : Nat)) r1.1 (by omega), wrap_small (x := bt s (i + 2 : Nat)) r2.1 (by omega),
            refDigit_eq (by omega) _ r1.1 r1.2, refDigit_eq (by omega) _ r2.1 r2.2]
          simp only [Option.bind_some]
          rw [if_pos (by omega), if_pos (by omega), if_pos (by omega), if_pos (by omega)]
          have dr : s.data.toList.drop (i + 1) = s.data.toList[i + 1] :: s.data.toList[i + 2] :: s.data.toList.drop (i + 3) := by
            rw [List.drop_eq_getElem_cons hl1, List.drop_eq_getElem_cons hl2]
          have fail : ((hexVal (bt s (i + 1 : Nat))).isSome && (hexVal (bt s (i + 2 : Nat))).isSome) = false → hornbookref03_Name.l0 k s (o ++ [bt s i]) (wrap64 ((i + 1 : Nat) : Int)) = some ⟨(outOf o ++ nameGo (s.data.toList.drop i)).toArray⟩ := by
            intro hf
            have p := push (by
              rw [dr]
              rw [b1, b2] at hf
              exact nameGo_no _ _ _ _ hf)
            rw [show ((i : Int) + 1) = ((i + 1 : Nat) : Int) by omega] at p
            exact p
          have wi : wrap64 ((i + 1 : Nat) : Int) = ((i + 1 : Nat) : Int) := wrap_small (by omega) (by omega)
          rw [wi] at fail
          cases hx : hexVal (bt s (i + 1 : Nat)) with
          | none =>
            rw [hx] at fail
            simp only [Option.isSome_none, Bool.false_and] at fail ⊢
            rw [if_neg (by decide), if_pos q1, if_pos q2, if_pos q3]
            exact fail trivial
          | some x =>
            cases hy : hexVal (bt s (i + 2 : Nat)) with
            | none =>
              rw [hx, hy] at fail
              simp only [Option.isSome_none, Option.isSome_some, Bool.and_false] at fail ⊢
              rw [if_pos trivial, if_neg (by decide), if_pos q1, if_pos q2, if_pos q3]
              exact fail trivial
            | some y =>
              have hxr := hexVal_range _ _ hx
              have hyr := hexVal_range _ _ hy
              simp only [Option.isSome_some, Option.getD_some]
              rw [if_pos trivial, if_pos trivial, if_pos q3, wrap_dig x y hxr hyr, wrap_next _ g5, ih (o ++ [(16 * x + y) % 256]) (i + 2 + 1) k g1 g2 (g3 _) g4, List.drop_eq_getElem_cons hl, dr, ec]
              rw [b1] at hx
              rw [b2] at hy
              rw [nameGo_yes _ _ _ x y hx hy, outOf_app, List.append_assoc, dig_byte x y hxr hyr]
              rfl
        · rw [decide_eq_false (by omega)]
          exact short (nameGo_short _ _ (by rw [List.length_drop, ← size_list]; omega))
      · rw [if_neg h35]
        refine short (nameGo_plain _ _ ?_)
        rw [beq_eq_false_iff_ne]
        intro e
        rw [bt_get s i hlt, e] at h35
        exact h35 rfl
    · rw [hornbookref03_Name.l0, if_neg (by omega), List.drop_of_length_le (by rw [← size_list]; omega), nameGo, List.append_nil, outOf_str]
theorem refWrite_loop (s : ByteArray) (hs : s.size ≤ 1000) (d : Nat) : ∀ (o : List UInt8) (i k : Nat), s.size - i = d → i ≤ s.size → o.length ≤ 3 * i → d + 30 ≤ k →
    hornbookref03_Write.l0 k s ⟨o.toArray⟩ i = some ⟨(o ++ writeBytes (s.data.toList.drop i)).toArray⟩ := by
  induction d with
  | zero =>
    intro o i k hd hi ho hk
    obtain ⟨k, rfl⟩ : ∃ m, k = m + 1 := ⟨k - 1, by omega⟩
    rw [hornbookref03_Write.l0, if_neg (by omega), List.drop_of_length_le (by rw [← size_list]; omega)]
    simp [writeBytes]
  | succ d ih =>
    intro o i k hd hi ho hk
    obtain ⟨k, rfl⟩ : ∃ m, k = m + 1 := ⟨k - 1, by omega⟩
    have hlt : i < s.size := by omega
    have hl : i < s.data.toList.length := by rw [← size_list]; exact hlt
    have ec := refCls_get s i hlt (k := k) (by omega)
    have step : ∀ x : List UInt8, x = writeOf s.data.toList[i] → hornbookref03_Write.l0 k s ⟨(o ++ x).toArray⟩ (wrap64 ((i : Int) + 1)) = some ⟨(o ++ writeBytes (s.data.toList.drop i)).toArray⟩ := by
      rintro x rfl
      have hw := writeOf_length s.data.toList[i]
      rw [wrap_small (by omega) (by omega), show ((i : Int) + 1) = ((i + 1 : Nat) : Int) by omega, ih _ (i + 1) k (by omega) (by omega) (by rw [List.length_append]; omega) (by omega), List.drop_eq_getElem_cons hl, List.append_assoc]
      simp only [writeBytes, List.flatMap_cons]
    have s1 := ba_size o
    have s2 := ba_size (o ++ [35])
    have s3 := ba_size (hexOf s.data.toList[i].toNat)
    have e35 : (⟨#[35]⟩ : ByteArray) = ⟨([35] : List UInt8).toArray⟩ := rfl
    rw [hornbookref03_Write.l0, if_pos (by omega), if_pos (by omega), ec]
    simp only [Option.bind_some]
    rw [bt_get s i hlt, refHex_eq (by omega), e35]
    simp only [Option.bind_some, ba_app]
    simp only [List.length_append, List.length_cons, List.length_nil] at s2
    have s3' : (hexOf s.data.toList[i].toNat).length = 2 := rfl
    have z1 : (⟨o.toArray⟩ : ByteArray).size + 1 ≤ 9223372036854775807 := by omega
    have z2 : (⟨(o ++ [35]).toArray⟩ : ByteArray).size + (⟨(hexOf s.data.toList[i].toNat).toArray⟩ : ByteArray).size ≤ 9223372036854775807 := by omega
    rw [if_pos z1, if_pos z2]
    have one : strOfNums [(s.data.toList[i].toNat : Int)] = ⟨[s.data.toList[i]].toArray⟩ := by rw [outOf_str]; simp only [outOf, List.map_cons, List.map_nil, u8_back]
    have sone := ba_size [s.data.toList[i]]
    rw [one]
    simp only [ba_app]
    rw [List.length_singleton] at sone
    have z3 : (⟨o.toArray⟩ : ByteArray).size + (⟨[s.data.toList[i]].toArray⟩ : ByteArray).size ≤ 9223372036854775807 := by omega
    rw [if_pos z3]
    have hexs : isPlainB s.data.toList[i].toNat = false → hornbookref03_Write.l0 k s ⟨(o ++ [35] ++ hexOf s.data.toList[i].toNat).toArray⟩ (wrap64 ((i : Int) + 1)) = some ⟨(o ++ writeBytes (s.data.toList.drop i)).toArray⟩ := by
      intro hp
      rw [List.append_assoc]
      refine step _ ?_
      unfold writeOf
      rw [if_neg (by rw [hp]; decide)]; rfl
    clear ih ec s1 s2 s3 sone one
    have key : isPlainB s.data.toList[i].toNat = (clsOf s.data.toList[i].toNat == 0 && (s.data.toList[i].toNat : Int) != 35 && decide (33 ≤ (s.data.toList[i].toNat : Int)) && decide ((s.data.toList[i].toNat : Int) ≤ 126)) := rfl
    by_cases h0 : clsOf s.data.toList[i].toNat = 0
    · rw [if_pos h0]
      by_cases h1 : (s.data.toList[i].toNat : Int) = 35
      · rw [if_pos h1]; exact hexs (by rw [key, h1]; simp)
      · rw [if_neg h1]
        by_cases h2 : (s.data.toList[i].toNat : Int) < 33
        · rw [if_pos h2]; exact hexs (by rw [key, decide_eq_false (show ¬ 33 ≤ (s.data.toList[i].toNat : Int) by omega)]; simp)
        · rw [if_neg h2]
          by_cases h3 : (s.data.toList[i].toNat : Int) > 126
          · rw [if_pos h3]; exact hexs (by rw [key, decide_eq_false (show ¬ (s.data.toList[i].toNat : Int) ≤ 126 by omega)]; simp)
          · rw [if_neg h3]
            refine step _ ?_
            unfold writeOf
            rw [if_pos (by rw [key, h0, decide_eq_true (show 33 ≤ (s.data.toList[i].toNat : Int) by omega), decide_eq_true (show (s.data.toList[i].toNat : Int) ≤ 126 by omega), bne_iff_ne.2 h1]; rfl)]
    · rw [if_neg h0]; exact hexs (by rw [key, beq_eq_false_iff_ne.2 h0]; simp)
theorem LexIs : hornbooklaw03_LexIs.Pure := by
  intro a0 a1 a2 h0 h1 h2
  obtain ⟨k, hk⟩ : ∃ k : Nat, 6000 ≤ k := ⟨6000, Nat.le_refl _⟩
  refine ⟨k, ?_⟩
  unfold hornbooklaw03_LexIs.f
  rw [awake3 (by omega)]
  simp only [Option.bind_some]
  by_cases hs : (a1.size : Int) > 1000
  · rw [if_pos hs]
  · rw [if_neg hs]
    have hsz := size_list a1
    have hi : lex_Int.f a1 = some (lexInt a1.data.toList) := by unfold lex_Int.f; rw [if_pos (by omega)]
    have hj : hornbookref03_Int.f k a1 = some (lexInt a1.data.toList) := by
      have := refInt_eq a1.data.toList (k := k) (by omega) (by omega)
      rw [← ba_eta] at this
      exact this
    have hn : lex_Name.f a1 = some ⟨(nameGo a1.data.toList).toArray⟩ := by unfold lex_Name.f; rw [if_pos (by omega)]
    have hm : hornbookref03_Name.f k a1 = some ⟨(nameGo a1.data.toList).toArray⟩ := by
      unfold hornbookref03_Name.f
      have := refName_loop a1 (by omega) a1.size [] 0 k (by omega) (by omega) (by simp) (by omega)
      rw [List.drop_zero] at this
      exact this
    have hw : lex_Write.f a1 = some ⟨(writeBytes a1.data.toList).toArray⟩ := by unfold lex_Write.f; rw [if_pos (by omega)]
    have hv : hornbookref03_Write.f k a1 = some ⟨(writeBytes a1.data.toList).toArray⟩ := by
      unfold hornbookref03_Write.f
      have := refWrite_loop a1 (by omega) _ [] 0 k rfl (by omega) (by simp) (by omega)
      rw [List.drop_zero] at this
      exact this
    rw [word_eq a1 (by omega) a2 (by omega), refWord_eq a1 (by omega) a2 (by omega), hi, hj, class_eq (by omega), refClass_eq a0 (by omega), skip_eq a1 (by omega) a2 (by omega), refSkip_eq a1 (by omega) a2 (by omega), hn, hm, hw, hv]
    simp only [Option.bind_some, if_true]
    rw [beq_self_eq_true]
end Go.Proofs.YtaolcbklpdodaaaGreatDoor.M
end
section
/- Proved: the statement LexIs: of any number, text and place the class, what is behind blanks and remarks, a word, a number, and a name read and written, are what the document says (for texts of up to 1000 bytes). -/
namespace Go.Proofs.YtaolcbklpdodaaaGreatDoor.lexIs
open Go Go.ChangeShapes Go.WideShapes Go.ChangeAt Go.RowKit
open Go.ChangeMaps (open_string shut_string)
set_option linter.unusedVariables false
theorem own : ownKnob Tryz.prog.godebug = none := by kernel_rfl
set_option maxRecDepth 100000 in
theorem lifted (os : Os) (started : os.Started) (H : Type) (enc : TypeId × Value → H) :
    ReturnsInHanded {} Tryz.checked os 3 .any (fun w args => (Rows.lexIsSpec.pre enc Tryz.prog Tryz.f3 Rows.lexIsRow.domain false w args ∧ laidMetH Tryz.prog Rows.lexIsRow.laid w) ∧ sizedMet enc Tryz.prog Tryz.f3 (OpenSpec.ofChange Rows.lexIsSpec) false w args)
      (Rows.lexIsSpec.post enc Tryz.prog Tryz.f3 false true false false) := by
  refine M.returns_both (C := Tryz.checked) (X := fun w _ => laidMetH Tryz.prog Rows.lexIsRow.laid w) (fun _ _ _ hh h => h.of_heap hh) own started (by kernel_rfl) Tryz.func3
    (ChangeSpec.witness_shaped (enc := enc) (C := Tryz.checked) (os := os) (X := fun w _ => laidMetH Tryz.prog Rows.lexIsRow.laid w) false (World.laidAll Tryz.prog os Rows.lexIsRow.laid) #[.int .i64 0, .string ByteArray.empty, .int .i64 0] 8 (World.laidAll_os _ _ _)
      (World.shaped_of_ZipB (by kernel_rfl) (by kernel_rfl)) (by kernel_rfl) (by kernel_rfl) (by kernel_rfl)
      (by rw [MakeChecks.laidMetH_plain _ _ _ (by kernel_rfl)]; exact laidMet_laidAll _ (by kernel_rfl) (by kernel_rfl))) ?_
  intro W base args ds gs before hval0 hW hcnd hsz0 hL hshape
  have hsz : (DataW.weightsEach Tryz.prog (Tryz.f3.params.toList ++ Rows.lexIsSpec.plain.varTypes Tryz.prog) (ds ++ gs)).all (· ≤ reachBytes) = true := hsz0
  have hval : ∀ (j : Nat) t v, Tryz.f3.params[j]? = some t → args[j]? = some v → Value.okWide Tryz.prog W .any base t v := hval0
  have hLp := hL
  rw [MakeChecks.laidMetH_plain _ _ _ (by kernel_rfl)] at hLp
  have hG : M.GW W := M.GW.of_mets (hLp.tail.tail.tail.tail) (hLp.tail.tail.tail.tail.tail) hshape
  have hW' := hW
  obtain ⟨p, q, hA0, hV, rfl, hfz, hnd⟩ := hW
  have hA : DataW.TrodAll enc Tryz.prog W 0 (fun _ => true) true Tryz.f3.params.toList args.toList ds p := hA0
  rw [Tryz.params3] at hA hval hsz
  obtain ⟨v0, vs0, d0, ds0, p0, q0, hargs, rfl, rfl, h0, r0⟩ := trodAll_cons hA
  obtain ⟨v1, vs1, d1, ds1, p1, q1, rfl, rfl, rfl, h1, r1⟩ := trodAll_cons r0
  obtain ⟨v2, vs2, d2, ds2, p2, q2, rfl, rfl, rfl, h2, r2⟩ := trodAll_cons r1
  obtain ⟨rfl, rfl, rfl⟩ := trodAll_nil r2
  obtain rfl : args = #[v0, v1, v2] := by cases args; simp_all
  obtain ⟨rfl, rfl⟩ := trodVars_none hV
  obtain ⟨a0, rfl, rfl, rfl, w0⟩ := open_int Tryz.underlying3 (hval 0 3 v0 rfl rfl) h0
  obtain ⟨a1, rfl, rfl, rfl, y1⟩ := open_string Tryz.underlying9 (hval 1 9 v1 rfl rfl) h1
  have w1 : a1.size ≤ 140737488351232 := by
    have z := sized_string hsz (j := 1) (t := 9) rfl rfl
    rw [Array.length_toList] at z
    exact z
  obtain ⟨a2, rfl, rfl, rfl, w2⟩ := open_int Tryz.underlying3 (hval 2 3 v2 rfl rfl) h2
  clear hA0 hval0 hsz0 hsz
  refine (M.hornbooklaw03_LexIs.walk M.LexIs a0 a1 a2 W w0 w1 w2 hG).mono fun e W' ⟨he, bel⟩ => ?_
  subst he
  exact ⟨_, rfl, _, _, _, [], _, [], hW', trodAll_mk1 (shut_bool Tryz.underlying4 _), (trodAll_cons_mk (shut_int Tryz.underlying3 w0) (trodAll_cons_mk (shut_string Tryz.underlying9 y1) (trodAll_cons_mk (shut_int Tryz.underlying3 w2) trodAll_mk0))), rfl, bel.frame _, fun h => by cases h⟩
theorem over : Rows.lexIsRow.holds Tryz.pinned (OpenSpec.ofChange Rows.lexIsSpec) :=
  OpenClaim.holds_of_wide 3 Tryz.f3 rfl rfl rfl rfl rfl rfl rfl ⟨rfl, rfl, rfl, rfl, rfl⟩ rfl rfl rfl rfl rfl (by kernel_rfl) Tryz.func3 (by kernel_rfl)
    (of_decide_eq_true (by kernel_rfl)) (by unfold Func.isWrapper; first | (rw [if_pos (by decide +kernel)]; kernel_rfl) | (rw [if_neg (by decide +kernel)]; exact ⟨rfl, rfl⟩))
    (fun os started H enc _ => lifted os started H enc)
theorem proved : Rows.LexIsSaid := over
theorem card : Rows.LexIsCardSaid :=
  Claim7.holds_tied_plain_at .later [] [.data, .data, .data, .data, .sentinel, .sentinel, .pinned] true (true, "783b23bd9c8d43b003b2ac2dab22dbc6fa747227fdd11b1d32b717d557685532") true
    proved (fun _ h => by cases h) (by kernel_rfl) (fun _ h => by cases h) lexIs_row_tie rfl ⟨rfl, rfl⟩ (by kernel_rfl) rfl
    (fun f fn hf hfn => by
      obtain rfl : f = 3 := Option.some.inj ((show Tryz.prog.funcNamed "hornbook/hornbooklaw03.LexIs" = some 3 by kernel_rfl).symm.trans hf) |>.symm
      obtain rfl : fn = Tryz.f3 := (Option.some.inj (Tryz.func3.symm.trans hfn)).symm
      exact ⟨by kernel_rfl, fun j t ht => by
        rw [Tryz.params3] at ht
        have hm : t ∈ [3, 9, 3] := by simpa using Array.mem_of_getElem? ht
        have hall : ([3, 9, 3].all fun u => !Tryz.prog.wantsStandIn u) = true := by kernel_rfl
        exact (show Tryz.prog.wantsStandIn t = false by simpa using List.all_eq_true.1 hall t hm)⟩)
    (by kernel_rfl)
end Go.Proofs.YtaolcbklpdodaaaGreatDoor.lexIs
namespace Go.Proofs.YtaolcbklpdodaaaGreatDoor
/-- The statement, under a short name, for the claim. -/
theorem lexIs_holds : Rows.LexIsCardSaid := lexIs.card
#print axioms lexIs_holds
end Go.Proofs.YtaolcbklpdodaaaGreatDoor
end
