/- Packed by this session's program hbpack.py out of this claim's own texts (Q8, Q6, Wr, Tn, Ts, Tu, Pq, Ps, Tx, Ty, Ta, Pd, Tb, Tc, Q3, PureTokBack, PureTokKinds, WSized): the same declarations, without those that the claim does not use. -/
import Derived.Test.YtfdikkdbmlcjiaaGreatDoorPkTokKinds3
import Derived.HandedShaped
import Derived.ProofKit
import Derived.LaidMore
import Derived.Lay
import Derived.Stop.Joined
import Derived.Shelf.Vars
import Derived.Stop.LaidErr
import Derived.Test.YtfdikkdbmlcjiaaGreatDoorRows
import Derived.Lib.ParseIntBCases
import Derived.Laws.BitsLemmas
import Derived.SizedLaws
import Derived.ChangeSlices
section
/- Laid by this session's program hbprint.py out of the translation: the function hornbook/hornbooklaw04.awake and its contract. -/
namespace Go.Proofs.YtfdikkdbmlcjiaaGreatDoor.M
open Go.RowKit Go.Proofs.YtfdikkdbmlcjiaaGreatDoorW.PrintWords Go.Proofs.YtfdikkdbmlcjiaaGreatDoorW.PrintLast Go.Proofs.YtfdikkdbmlcjiaaGreatDoorW.PrintMore
attribute [local go_sem] max2_int min2_int max_two min_two max_three min_three max_four min_four
set_option linter.unusedVariables false
set_option linter.unusedSimpArgs false
attribute [local go_sem high] eqA31
def hornbooklaw04_awake.f (k : Nat)  : Option (Bool) := (tok_All.f k (⟨#[50, 32, 47, 97, 35, 50, 48, 98, 32, 60, 52, 65, 53, 62]⟩ : ByteArray)).bind fun bt194 => (if bt194.2.2 = 0 then (if bt194.2.1 = 14 then (if (bt194.1.length : Int) = 3 then (if 0 < (bt194.1.length : Int) then (if (((rd_T31 bt194.1 0).f0) == 1 && (((rd_T31 bt194.1 0).f1) == 0 && (((rd_T31 bt194.1 0).f2) == 2 && ((((rd_T31 bt194.1 0).f3).toList) == ([] : List UInt8))))) = true then (if 1 < (bt194.1.length : Int) then (if (((rd_T31 bt194.1 1).f0) == 2 && (((rd_T31 bt194.1 1).f1) == 2 && (((rd_T31 bt194.1 1).f2) == 0 && ((((rd_T31 bt194.1 1).f3).toList) == ([97, 32, 98] : List UInt8))))) = true then (if 2 < (bt194.1.length : Int) then (if ((rd_T31 bt194.1 2).f3).toList = ([74, 80] : List UInt8) then ((tok_Text.f k bt194.1).bind fun t202 => (some (t202.toList == ([50, 32, 47, 97, 35, 50, 48, 98, 32, 60, 52, 65, 53, 48, 62] : List UInt8)))) else (some false)) else (none)) else (some false)) else (none)) else (some false)) else (none)) else (some false)) else (some false)) else (some false))
theorem hornbooklaw04_awake.mono : ∀ k, LeO (hornbooklaw04_awake.f k ) (hornbooklaw04_awake.f (k + 1) ) := by
  intro  k
  unfold hornbooklaw04_awake.f
  repeat' first
      | (with_reducible exact tok_All.mono _ _)
      | (with_reducible exact tok_Text.mono _ _)
      | (with_reducible exact LeO.refl _)
      | (with_reducible exact LeO.none _)
      | (with_reducible refine LeO.ite ?_ ?_)
      | (with_reducible refine LeO.bind ?_ (fun _ => ?_))
      | exact tok_All.mono _ _
      | exact tok_Text.mono _ _
      | exact LeO.none _
      | refine LeO.ite ?_ ?_
      | refine LeO.bind ?_ (fun _ => ?_)
set_option maxHeartbeats 8000000 in
set_option maxRecDepth 100000 in
theorem hornbooklaw04_awake.calls (k : Nat)  (r : Bool) (w : World) (hG : GW w) (h : hornbooklaw04_awake.f k  = some r) :
    Calls Tryz.prog 8 #[] w fun e w' => e = .returned (.bool r) ∧ Below w.heap.size w w' := by
  have hu31 := Tryz.underlying31
  have HG := Aside0.mk hG
  clear hG
  have HB := Aside0.mk (Below.refl w.heap.size w)
  have H : ((tok_All.f k (⟨#[50, 32, 47, 97, 35, 50, 48, 98, 32, 60, 52, 65, 53, 62]⟩ : ByteArray)).bind fun bt194 => (if bt194.2.2 = 0 then (if bt194.2.1 = 14 then (if (bt194.1.length : Int) = 3 then (if 0 < (bt194.1.length : Int) then (if (((rd_T31 bt194.1 0).f0) == 1 && (((rd_T31 bt194.1 0).f1) == 0 && (((rd_T31 bt194.1 0).f2) == 2 && ((((rd_T31 bt194.1 0).f3).toList) == ([] : List UInt8))))) = true then (if 1 < (bt194.1.length : Int) then (if (((rd_T31 bt194.1 1).f0) == 2 && (((rd_T31 bt194.1 1).f1) == 2 && (((rd_T31 bt194.1 1).f2) == 0 && ((((rd_T31 bt194.1 1).f3).toList) == ([97, 32, 98] : List UInt8))))) = true then (if 2 < (bt194.1.length : Int) then (if ((rd_T31 bt194.1 2).f3).toList = ([74, 80] : List UInt8) then ((tok_Text.f k bt194.1).bind fun t202 => (some (t202.toList == ([50, 32, 47, 97, 35, 50, 48, 98, 32, 60, 52, 65, 53, 48, 62] : List UInt8)))) else (some false)) else (none)) else (some false)) else (none)) else (some false)) else (none)) else (some false)) else (some false)) else (some false))) = some r := h
  clear h
  replace H := Option.bind_eq_some_iff.mp H
  obtain ⟨⟨t194, t195, t196⟩, A10, H⟩ := H
  replace H : (if t196 = 0 then (if t195 = 14 then (if (t194.length : Int) = 3 then (if 0 < (t194.length : Int) then (if (((rd_T31 t194 0).f0) == 1 && (((rd_T31 t194 0).f1) == 0 && (((rd_T31 t194 0).f2) == 2 && ((((rd_T31 t194 0).f3).toList) == ([] : List UInt8))))) = true then (if 1 < (t194.length : Int) then (if (((rd_T31 t194 1).f0) == 2 && (((rd_T31 t194 1).f1) == 2 && (((rd_T31 t194 1).f2) == 0 && ((((rd_T31 t194 1).f3).toList) == ([97, 32, 98] : List UInt8))))) = true then (if 2 < (t194.length : Int) then (if ((rd_T31 t194 2).f3).toList = ([74, 80] : List UInt8) then ((tok_Text.f k t194).bind fun t202 => (some (t202.toList == ([50, 32, 47, 97, 35, 50, 48, 98, 32, 60, 52, 65, 53, 48, 62] : List UInt8)))) else (some false)) else (none)) else (some false)) else (none)) else (some false)) else (none)) else (some false)) else (some false)) else (some false)) = some r := H
  have A1 := Aside0.mk A10
  clear A10
  by_cases c2 : t196 = 0
  · rw [if_pos c2] at H
    have c2b0 : (t196 == 0) = true := beq_iff_eq.mpr c2
    have c2b1 : (t196 != 0) = false := bne_eq_false_iff_eq.mpr c2
    clear c2
    by_cases c3 : t195 = 14
    · rw [if_pos c3] at H
      have c3b0 : (t195 == 14) = true := beq_iff_eq.mpr c3
      have c3b1 : (t195 != 14) = false := bne_eq_false_iff_eq.mpr c3
      clear c3
      by_cases c4 : (t194.length : Int) = 3
      · rw [if_pos c4] at H
        have c4b0 : ((t194.length : Int) == 3) = true := beq_iff_eq.mpr c4
        have c4b1 : ((t194.length : Int) != 3) = false := bne_eq_false_iff_eq.mpr c4
        clear c4
        by_cases c5 : 0 < (t194.length : Int)
        · rw [if_pos c5] at H
          have c5b0 : decide (0 < (t194.length : Int)) = true := decide_eq_true c5
          have c5b1 : decide (0 < t194.length) = true := decide_eq_true (by omega)
          clear c5
          by_cases c6 : (((rd_T31 t194 0).f0) == 1 && (((rd_T31 t194 0).f1) == 0 && (((rd_T31 t194 0).f2) == 2 && ((((rd_T31 t194 0).f3).toList) == ([] : List UInt8))))) = true
          · rw [if_pos c6] at H
            have c6b0 : (((rd_T31 t194 0).f0) == 1 && (((rd_T31 t194 0).f1) == 0 && (((rd_T31 t194 0).f2) == 2 && ((((rd_T31 t194 0).f3).toList) == ([] : List UInt8))))) = true := c6
            (try (have c6b1 : decide (((rd_T31 t194 0).f0) = 1 && (((rd_T31 t194 0).f1) == 0 && (((rd_T31 t194 0).f2) == 2 && ((((rd_T31 t194 0).f3).toList) == ([] : List UInt8))))) = true := by simpa using c6))
            (try (have c6b2 : (((rd_T31 t194 0).f0) == 1 && (((rd_T31 t194 0).f1) == 0 && (((rd_T31 t194 0).f2) == 2 && ((((rd_T31 t194 0).f3).toList) == ([] : List UInt8))))) = true := by simpa using c6))
            (try (have c6b3 : ((((rd_T31 t194 0).f0) = 1 ∧ (((rd_T31 t194 0).f1) = 0 ∧ (((rd_T31 t194 0).f2) = 2 ∧ ((((rd_T31 t194 0).f3).toList) = ([] : List UInt8)))))) = True := eq_true (by simpa using c6)))
            (try (have c6b4 : (((rd_T31 t194 0).f0) = 1 ∧ (((rd_T31 t194 0).f1) = 0 ∧ (((rd_T31 t194 0).f2) = 2 ∧ ((((rd_T31 t194 0).f3).toList) = ([] : List UInt8))))) := by simpa using c6))
            clear c6
            by_cases c7 : 1 < (t194.length : Int)
            · rw [if_pos c7] at H
              have c7b0 : decide (1 < (t194.length : Int)) = true := decide_eq_true c7
              have c7b1 : decide (1 < t194.length) = true := decide_eq_true (by omega)
              clear c7
              by_cases c8 : (((rd_T31 t194 1).f0) == 2 && (((rd_T31 t194 1).f1) == 2 && (((rd_T31 t194 1).f2) == 0 && ((((rd_T31 t194 1).f3).toList) == ([97, 32, 98] : List UInt8))))) = true
              · rw [if_pos c8] at H
                have c8b0 : (((rd_T31 t194 1).f0) == 2 && (((rd_T31 t194 1).f1) == 2 && (((rd_T31 t194 1).f2) == 0 && ((((rd_T31 t194 1).f3).toList) == ([97, 32, 98] : List UInt8))))) = true := c8
                (try (have c8b1 : decide (((rd_T31 t194 1).f0) = 2 && (((rd_T31 t194 1).f1) == 2 && (((rd_T31 t194 1).f2) == 0 && ((((rd_T31 t194 1).f3).toList) == ([97, 32, 98] : List UInt8))))) = true := by simpa using c8))
                (try (have c8b2 : (((rd_T31 t194 1).f0) == 2 && (((rd_T31 t194 1).f1) == 2 && (((rd_T31 t194 1).f2) == 0 && ((((rd_T31 t194 1).f3).toList) == ([97, 32, 98] : List UInt8))))) = true := by simpa using c8))
                (try (have c8b3 : ((((rd_T31 t194 1).f0) = 2 ∧ (((rd_T31 t194 1).f1) = 2 ∧ (((rd_T31 t194 1).f2) = 0 ∧ ((((rd_T31 t194 1).f3).toList) = ([97, 32, 98] : List UInt8)))))) = True := eq_true (by simpa using c8)))
                (try (have c8b4 : (((rd_T31 t194 1).f0) = 2 ∧ (((rd_T31 t194 1).f1) = 2 ∧ (((rd_T31 t194 1).f2) = 0 ∧ ((((rd_T31 t194 1).f3).toList) = ([97, 32, 98] : List UInt8))))) := by simpa using c8))
                clear c8
                by_cases c9 : 2 < (t194.length : Int)
                · rw [if_pos c9] at H
                  have c9b0 : decide (2 < (t194.length : Int)) = true := decide_eq_true c9
                  have c9b1 : decide (2 < t194.length) = true := decide_eq_true (by omega)
                  clear c9
                  by_cases c10 : ((rd_T31 t194 2).f3).toList = ([74, 80] : List UInt8)
                  · rw [if_pos c10] at H
                    have c10b0 : (((rd_T31 t194 2).f3).toList == ([74, 80] : List UInt8)) = true := beq_iff_eq.mpr c10
                    have c10b1 : (((rd_T31 t194 2).f3).toList != ([74, 80] : List UInt8)) = false := bne_eq_false_iff_eq.mpr c10
                    clear c10
                    replace H := Option.bind_eq_some_iff.mp H
                    obtain ⟨t202, A110, H⟩ := H
                    replace H : (some (t202.toList == ([50, 32, 47, 97, 35, 50, 48, 98, 32, 60, 52, 65, 53, 48, 62] : List UInt8))) = some r := H
                    have A11 := Aside0.mk A110
                    clear A110
                    obtain rfl := Option.some.inj H
                    go_enter Tryz.func8, Tryz.ntmps8
                    go_wp2_with (first | ((with_reducible refine gate_callee (f := 9) rfl ?_); refine goesL_ (some 5) rfl rfl Tryz.func9 (by kernel_rfl) rfl #[.string (⟨#[50, 32, 47, 97, 35, 50, 48, 98, 32, 60, 52, 65, 53, 62]⟩ : ByteArray)] rfl (by (try simp only [List.map_toArray, List.map_cons, List.map_nil]); first | done | rfl | (simp only [List.length_drop, List.length_take]; rfl)) ?_; (with_reducible refine (tok_All.calls k (⟨#[50, 32, 47, 97, 35, 50, 48, 98, 32, 60, 52, 65, 53, 62]⟩ : ByteArray) t194 t195 t196 _ ?side1 A1.out).mono ?_); (case side1 => exact GW.below (by repeat (first | (with_reducible first | exact HB.out | apply below_alloc | apply pw_below_drewN | apply below_drew1) | exact HB.out)) HG.out); rintro e w12 ⟨v197, rfl, ho0, hb⟩; refine ⟨_, rfl, ?_⟩; have n0_ := Aside0.mk (Kd.R_lower ho0 (below_size (by repeat (first | (with_reducible first | exact HB.out | apply below_alloc | apply pw_below_drewN | apply below_drew1) | exact HB.out)))); have n1_ := Aside0.mk (below_step (by repeat (first | (with_reducible first | exact HB.out | apply below_alloc | apply pw_below_drewN | apply below_drew1) | exact HB.out)) hb); clear HB; have HO198 := n0_; have HB := n1_; clear n0_ n1_; (try clear hb); (try clear hb2); (try clear hk); (try clear hi); (try clear ho0); obtain ⟨Ao13, co13, eo13⟩ := Kd.R_slice HO198.out; subst eo13; have p199 : 0 ≤ (0 : Int) := (by omega); have q199 : 0 < (t194.length : Int) := of_decide_eq_true (by first | (with_reducible assumption) | assumption); obtain ⟨ad199, e199, hx199_0, hx199_1, hx199_2, hx199_3⟩ := at_T31 (Kd.R_reads' HO198.out).2.2 0 p199 q199; cases e199; have qi199 : (0 < t194.length) = True := eq_true (by omega); (try rw [show ((0 : Int)).toNat = 0 from rfl] at hx199_0); (try rw [show 0 * 4 = 0 from rfl] at hx199_0); (try rw [Addr.add_zero'] at hx199_0); (try rw [show ((0 : Int)).toNat = 0 from rfl] at hx199_1); (try rw [show 0 * 4 = 0 from rfl] at hx199_1); (try rw [Addr.add_zero'] at hx199_1); (try rw [show ((0 : Int)).toNat = 0 from rfl] at hx199_2); (try rw [show 0 * 4 = 0 from rfl] at hx199_2); (try rw [Addr.add_zero'] at hx199_2); (try rw [show ((0 : Int)).toNat = 0 from rfl] at hx199_3); (try rw [show 0 * 4 = 0 from rfl] at hx199_3); (try rw [Addr.add_zero'] at hx199_3); replace p199 := eq_true p199; replace q199 := eq_true q199; have p200 : 0 ≤ (1 : Int) := (by omega); have q200 : 1 < (t194.length : Int) := of_decide_eq_true (by first | (with_reducible assumption) | assumption); obtain ⟨ad200, e200, hx200_0, hx200_1, hx200_2, hx200_3⟩ := at_T31 (Kd.R_reads' HO198.out).2.2 1 p200 q200; obtain rfl : ad199 = ad200 := (by injection e200); (try simp only [show (1 : Int).toNat = 1 from rfl, Nat.reduceMul, Nat.reduceEqDiff, Go.Addr.add, ↓reduceIte] at hx200_0); (try simp only [show (1 : Int).toNat = 1 from rfl, Nat.reduceMul, Nat.reduceEqDiff, Go.Addr.add, ↓reduceIte] at hx200_1); (try simp only [show (1 : Int).toNat = 1 from rfl, Nat.reduceMul, Nat.reduceEqDiff, Go.Addr.add, ↓reduceIte] at hx200_2); (try simp only [show (1 : Int).toNat = 1 from rfl, Nat.reduceMul, Nat.reduceEqDiff, Go.Addr.add, ↓reduceIte] at hx200_3); have qi200 : (1 < t194.length) = True := eq_true (by omega); (try rw [show ((1 : Int)).toNat = 1 from rfl] at hx200_0); (try rw [show 1 * 4 = 4 from rfl] at hx200_0); (try rw [show ((1 : Int)).toNat = 1 from rfl] at hx200_1); (try rw [show 1 * 4 = 4 from rfl] at hx200_1); (try rw [show ((1 : Int)).toNat = 1 from rfl] at hx200_2); (try rw [show 1 * 4 = 4 from rfl] at hx200_2); (try rw [show ((1 : Int)).toNat = 1 from rfl] at hx200_3); (try rw [show 1 * 4 = 4 from rfl] at hx200_3); replace p200 := eq_true p200; replace q200 := eq_true q200; have p201 : 0 ≤ (2 : Int) := (by omega); have q201 : 2 < (t194.length : Int) := of_decide_eq_true (by first | (with_reducible assumption) | assumption); obtain ⟨ad201, e201, hx201_0, hx201_1, hx201_2, hx201_3⟩ := at_T31 (Kd.R_reads' HO198.out).2.2 2 p201 q201; obtain rfl : ad199 = ad201 := (by injection e201); (try simp only [show (2 : Int).toNat = 2 from rfl, Nat.reduceMul, Nat.reduceEqDiff, Go.Addr.add, ↓reduceIte] at hx201_0); (try simp only [show (2 : Int).toNat = 2 from rfl, Nat.reduceMul, Nat.reduceEqDiff, Go.Addr.add, ↓reduceIte] at hx201_1); (try simp only [show (2 : Int).toNat = 2 from rfl, Nat.reduceMul, Nat.reduceEqDiff, Go.Addr.add, ↓reduceIte] at hx201_2); (try simp only [show (2 : Int).toNat = 2 from rfl, Nat.reduceMul, Nat.reduceEqDiff, Go.Addr.add, ↓reduceIte] at hx201_3); have qi201 : (2 < t194.length) = True := eq_true (by omega); (try rw [show ((2 : Int)).toNat = 2 from rfl] at hx201_0); (try rw [show 2 * 4 = 8 from rfl] at hx201_0); (try rw [show ((2 : Int)).toNat = 2 from rfl] at hx201_1); (try rw [show 2 * 4 = 8 from rfl] at hx201_1); (try rw [show ((2 : Int)).toNat = 2 from rfl] at hx201_2); (try rw [show 2 * 4 = 8 from rfl] at hx201_2); (try rw [show ((2 : Int)).toNat = 2 from rfl] at hx201_3); (try rw [show 2 * 4 = 8 from rfl] at hx201_3); replace p201 := eq_true p201; replace q201 := eq_true q201) | (go_at_call 10; (with_reducible refine (tok_Text.calls k _ _ t194 t202 _ ?side1 ?side2 ?side3 A11.out).mono ?_); (case side1 => exact GW.below (by repeat (first | (with_reducible first | exact HB.out | apply below_alloc | apply pw_below_drewN | apply below_drew1) | exact HB.out)) HG.out); (case side2 => repeat (first | exact (Kd.R_reads' HO198.out).2.2 | (with_reducible refine Kd.C_alloc ?_ _) | (with_reducible refine Kd.C_drewN ?_ _) | (with_reducible refine Kd.C_drew ?_))); (case side3 => exact (Kd.R_reads' HO198.out).2.1); rintro e w14 ⟨rfl, hb⟩; have n0_ := Aside0.mk (Kd.R_below (by (with_reducible repeat (first | apply Kd.R_alloc | apply Kd.R_drewN | apply Kd.R_drew)); exact HO198.out) hb); have n1_ := Aside0.mk (below_step (by repeat (first | (with_reducible first | exact HB.out | apply below_alloc | apply pw_below_drewN | apply below_drew1) | exact HB.out)) hb); clear HO198; clear HB; have HO198 := n0_; have HB := n1_; clear n0_ n1_; (try clear hb); (try clear hb2); (try clear hk); (try clear hi)))
                    go_ret
                    exact ⟨by first | rfl | (simp [errW_none, errW_some] <;> rfl) | (simp [*, errW_none, errW_some] <;> rfl), by repeat (first | (with_reducible first | exact HB.out | apply below_alloc | apply pw_below_drewN | apply below_drew1) | exact HB.out)⟩
                  · rw [if_neg c10] at H
                    have c10b0 : (((rd_T31 t194 2).f3).toList == ([74, 80] : List UInt8)) = false := beq_eq_false_iff_ne.mpr c10
                    have c10b1 : (((rd_T31 t194 2).f3).toList != ([74, 80] : List UInt8)) = true := bne_iff_ne.mpr c10
                    obtain rfl := Option.some.inj H
                    go_enter Tryz.func8, Tryz.ntmps8
                    go_wp2_with (first | ((with_reducible refine gate_callee (f := 9) rfl ?_); refine goesL_ (some 5) rfl rfl Tryz.func9 (by kernel_rfl) rfl #[.string (⟨#[50, 32, 47, 97, 35, 50, 48, 98, 32, 60, 52, 65, 53, 62]⟩ : ByteArray)] rfl (by (try simp only [List.map_toArray, List.map_cons, List.map_nil]); first | done | rfl | (simp only [List.length_drop, List.length_take]; rfl)) ?_; (with_reducible refine (tok_All.calls k (⟨#[50, 32, 47, 97, 35, 50, 48, 98, 32, 60, 52, 65, 53, 62]⟩ : ByteArray) t194 t195 t196 _ ?side1 A1.out).mono ?_); (case side1 => exact GW.below (by repeat (first | (with_reducible first | exact HB.out | apply below_alloc | apply pw_below_drewN | apply below_drew1) | exact HB.out)) HG.out); rintro e w15 ⟨v197, rfl, ho0, hb⟩; refine ⟨_, rfl, ?_⟩; have n0_ := Aside0.mk (Kd.R_lower ho0 (below_size (by repeat (first | (with_reducible first | exact HB.out | apply below_alloc | apply pw_below_drewN | apply below_drew1) | exact HB.out)))); have n1_ := Aside0.mk (below_step (by repeat (first | (with_reducible first | exact HB.out | apply below_alloc | apply pw_below_drewN | apply below_drew1) | exact HB.out)) hb); clear HB; have HO198 := n0_; have HB := n1_; clear n0_ n1_; (try clear hb); (try clear hb2); (try clear hk); (try clear hi); (try clear ho0); obtain ⟨Ao16, co16, eo16⟩ := Kd.R_slice HO198.out; subst eo16; have p199 : 0 ≤ (0 : Int) := (by omega); have q199 : 0 < (t194.length : Int) := of_decide_eq_true (by first | (with_reducible assumption) | assumption); obtain ⟨ad199, e199, hx199_0, hx199_1, hx199_2, hx199_3⟩ := at_T31 (Kd.R_reads' HO198.out).2.2 0 p199 q199; cases e199; have qi199 : (0 < t194.length) = True := eq_true (by omega); (try rw [show ((0 : Int)).toNat = 0 from rfl] at hx199_0); (try rw [show 0 * 4 = 0 from rfl] at hx199_0); (try rw [Addr.add_zero'] at hx199_0); (try rw [show ((0 : Int)).toNat = 0 from rfl] at hx199_1); (try rw [show 0 * 4 = 0 from rfl] at hx199_1); (try rw [Addr.add_zero'] at hx199_1); (try rw [show ((0 : Int)).toNat = 0 from rfl] at hx199_2); (try rw [show 0 * 4 = 0 from rfl] at hx199_2); (try rw [Addr.add_zero'] at hx199_2); (try rw [show ((0 : Int)).toNat = 0 from rfl] at hx199_3); (try rw [show 0 * 4 = 0 from rfl] at hx199_3); (try rw [Addr.add_zero'] at hx199_3); replace p199 := eq_true p199; replace q199 := eq_true q199; have p200 : 0 ≤ (1 : Int) := (by omega); have q200 : 1 < (t194.length : Int) := of_decide_eq_true (by first | (with_reducible assumption) | assumption); obtain ⟨ad200, e200, hx200_0, hx200_1, hx200_2, hx200_3⟩ := at_T31 (Kd.R_reads' HO198.out).2.2 1 p200 q200; obtain rfl : ad199 = ad200 := (by injection e200); (try simp only [show (1 : Int).toNat = 1 from rfl, Nat.reduceMul, Nat.reduceEqDiff, Go.Addr.add, ↓reduceIte] at hx200_0); (try simp only [show (1 : Int).toNat = 1 from rfl, Nat.reduceMul, Nat.reduceEqDiff, Go.Addr.add, ↓reduceIte] at hx200_1); (try simp only [show (1 : Int).toNat = 1 from rfl, Nat.reduceMul, Nat.reduceEqDiff, Go.Addr.add, ↓reduceIte] at hx200_2); (try simp only [show (1 : Int).toNat = 1 from rfl, Nat.reduceMul, Nat.reduceEqDiff, Go.Addr.add, ↓reduceIte] at hx200_3); have qi200 : (1 < t194.length) = True := eq_true (by omega); (try rw [show ((1 : Int)).toNat = 1 from rfl] at hx200_0); (try rw [show 1 * 4 = 4 from rfl] at hx200_0); (try rw [show ((1 : Int)).toNat = 1 from rfl] at hx200_1); (try rw [show 1 * 4 = 4 from rfl] at hx200_1); (try rw [show ((1 : Int)).toNat = 1 from rfl] at hx200_2); (try rw [show 1 * 4 = 4 from rfl] at hx200_2); (try rw [show ((1 : Int)).toNat = 1 from rfl] at hx200_3); (try rw [show 1 * 4 = 4 from rfl] at hx200_3); replace p200 := eq_true p200; replace q200 := eq_true q200; have p201 : 0 ≤ (2 : Int) := (by omega); have q201 : 2 < (t194.length : Int) := of_decide_eq_true (by first | (with_reducible assumption) | assumption); obtain ⟨ad201, e201, hx201_0, hx201_1, hx201_2, hx201_3⟩ := at_T31 (Kd.R_reads' HO198.out).2.2 2 p201 q201; obtain rfl : ad199 = ad201 := (by injection e201); (try simp only [show (2 : Int).toNat = 2 from rfl, Nat.reduceMul, Nat.reduceEqDiff, Go.Addr.add, ↓reduceIte] at hx201_0); (try simp only [show (2 : Int).toNat = 2 from rfl, Nat.reduceMul, Nat.reduceEqDiff, Go.Addr.add, ↓reduceIte] at hx201_1); (try simp only [show (2 : Int).toNat = 2 from rfl, Nat.reduceMul, Nat.reduceEqDiff, Go.Addr.add, ↓reduceIte] at hx201_2); (try simp only [show (2 : Int).toNat = 2 from rfl, Nat.reduceMul, Nat.reduceEqDiff, Go.Addr.add, ↓reduceIte] at hx201_3); have qi201 : (2 < t194.length) = True := eq_true (by omega); (try rw [show ((2 : Int)).toNat = 2 from rfl] at hx201_0); (try rw [show 2 * 4 = 8 from rfl] at hx201_0); (try rw [show ((2 : Int)).toNat = 2 from rfl] at hx201_1); (try rw [show 2 * 4 = 8 from rfl] at hx201_1); (try rw [show ((2 : Int)).toNat = 2 from rfl] at hx201_2); (try rw [show 2 * 4 = 8 from rfl] at hx201_2); (try rw [show ((2 : Int)).toNat = 2 from rfl] at hx201_3); (try rw [show 2 * 4 = 8 from rfl] at hx201_3); replace p201 := eq_true p201; replace q201 := eq_true q201))
                    go_ret
                    exact ⟨by first | rfl | (simp [errW_none, errW_some] <;> rfl) | (simp [*, errW_none, errW_some] <;> rfl), by repeat (first | (with_reducible first | exact HB.out | apply below_alloc | apply pw_below_drewN | apply below_drew1) | exact HB.out)⟩
                · rw [if_neg c9] at H
                  exact absurd H (by simp)
              · rw [if_neg c8] at H
                have c8b0 : (((rd_T31 t194 1).f0) == 2 && (((rd_T31 t194 1).f1) == 2 && (((rd_T31 t194 1).f2) == 0 && ((((rd_T31 t194 1).f3).toList) == ([97, 32, 98] : List UInt8))))) = false := by simpa using c8
                (try (have c8b1 : decide (((rd_T31 t194 1).f0) = 2 && (((rd_T31 t194 1).f1) == 2 && (((rd_T31 t194 1).f2) == 0 && ((((rd_T31 t194 1).f3).toList) == ([97, 32, 98] : List UInt8))))) = false := by simpa using c8))
                (try (have c8b2 : (((rd_T31 t194 1).f0) == 2 && (((rd_T31 t194 1).f1) == 2 && (((rd_T31 t194 1).f2) == 0 && ((((rd_T31 t194 1).f3).toList) == ([97, 32, 98] : List UInt8))))) = false := by simpa using c8))
                (try (have c8b3 : ¬ (((rd_T31 t194 1).f0) = 2 && (((rd_T31 t194 1).f1) == 2 && (((rd_T31 t194 1).f2) == 0 && ((((rd_T31 t194 1).f3).toList) == ([97, 32, 98] : List UInt8))))) := by simpa using c8))
                (try (have c8b4 : ¬ ((((rd_T31 t194 1).f0) = 2 ∧ (((rd_T31 t194 1).f1) = 2 ∧ (((rd_T31 t194 1).f2) = 0 ∧ ((((rd_T31 t194 1).f3).toList) = ([97, 32, 98] : List UInt8)))))) := by first | simpa using c8 | (intro h_; simp [h_] at c8)))
                clear c8
                obtain rfl := Option.some.inj H
                go_enter Tryz.func8, Tryz.ntmps8
                go_wp2_with (first | ((with_reducible refine gate_callee (f := 9) rfl ?_); refine goesL_ (some 5) rfl rfl Tryz.func9 (by kernel_rfl) rfl #[.string (⟨#[50, 32, 47, 97, 35, 50, 48, 98, 32, 60, 52, 65, 53, 62]⟩ : ByteArray)] rfl (by (try simp only [List.map_toArray, List.map_cons, List.map_nil]); first | done | rfl | (simp only [List.length_drop, List.length_take]; rfl)) ?_; (with_reducible refine (tok_All.calls k (⟨#[50, 32, 47, 97, 35, 50, 48, 98, 32, 60, 52, 65, 53, 62]⟩ : ByteArray) t194 t195 t196 _ ?side1 A1.out).mono ?_); (case side1 => exact GW.below (by repeat (first | (with_reducible first | exact HB.out | apply below_alloc | apply pw_below_drewN | apply below_drew1) | exact HB.out)) HG.out); rintro e w17 ⟨v197, rfl, ho0, hb⟩; refine ⟨_, rfl, ?_⟩; have n0_ := Aside0.mk (Kd.R_lower ho0 (below_size (by repeat (first | (with_reducible first | exact HB.out | apply below_alloc | apply pw_below_drewN | apply below_drew1) | exact HB.out)))); have n1_ := Aside0.mk (below_step (by repeat (first | (with_reducible first | exact HB.out | apply below_alloc | apply pw_below_drewN | apply below_drew1) | exact HB.out)) hb); clear HB; have HO198 := n0_; have HB := n1_; clear n0_ n1_; (try clear hb); (try clear hb2); (try clear hk); (try clear hi); (try clear ho0); obtain ⟨Ao18, co18, eo18⟩ := Kd.R_slice HO198.out; subst eo18; have p199 : 0 ≤ (0 : Int) := (by omega); have q199 : 0 < (t194.length : Int) := of_decide_eq_true (by first | (with_reducible assumption) | assumption); obtain ⟨ad199, e199, hx199_0, hx199_1, hx199_2, hx199_3⟩ := at_T31 (Kd.R_reads' HO198.out).2.2 0 p199 q199; cases e199; have qi199 : (0 < t194.length) = True := eq_true (by omega); (try rw [show ((0 : Int)).toNat = 0 from rfl] at hx199_0); (try rw [show 0 * 4 = 0 from rfl] at hx199_0); (try rw [Addr.add_zero'] at hx199_0); (try rw [show ((0 : Int)).toNat = 0 from rfl] at hx199_1); (try rw [show 0 * 4 = 0 from rfl] at hx199_1); (try rw [Addr.add_zero'] at hx199_1); (try rw [show ((0 : Int)).toNat = 0 from rfl] at hx199_2); (try rw [show 0 * 4 = 0 from rfl] at hx199_2); (try rw [Addr.add_zero'] at hx199_2); (try rw [show ((0 : Int)).toNat = 0 from rfl] at hx199_3); (try rw [show 0 * 4 = 0 from rfl] at hx199_3); (try rw [Addr.add_zero'] at hx199_3); replace p199 := eq_true p199; replace q199 := eq_true q199; have p200 : 0 ≤ (1 : Int) := (by omega); have q200 : 1 < (t194.length : Int) := of_decide_eq_true (by first | (with_reducible assumption) | assumption); obtain ⟨ad200, e200, hx200_0, hx200_1, hx200_2, hx200_3⟩ := at_T31 (Kd.R_reads' HO198.out).2.2 1 p200 q200; obtain rfl : ad199 = ad200 := (by injection e200); (try simp only [show (1 : Int).toNat = 1 from rfl, Nat.reduceMul, Nat.reduceEqDiff, Go.Addr.add, ↓reduceIte] at hx200_0); (try simp only [show (1 : Int).toNat = 1 from rfl, Nat.reduceMul, Nat.reduceEqDiff, Go.Addr.add, ↓reduceIte] at hx200_1); (try simp only [show (1 : Int).toNat = 1 from rfl, Nat.reduceMul, Nat.reduceEqDiff, Go.Addr.add, ↓reduceIte] at hx200_2); (try simp only [show (1 : Int).toNat = 1 from rfl, Nat.reduceMul, Nat.reduceEqDiff, Go.Addr.add, ↓reduceIte] at hx200_3); have qi200 : (1 < t194.length) = True := eq_true (by omega); (try rw [show ((1 : Int)).toNat = 1 from rfl] at hx200_0); (try rw [show 1 * 4 = 4 from rfl] at hx200_0); (try rw [show ((1 : Int)).toNat = 1 from rfl] at hx200_1); (try rw [show 1 * 4 = 4 from rfl] at hx200_1); (try rw [show ((1 : Int)).toNat = 1 from rfl] at hx200_2); (try rw [show 1 * 4 = 4 from rfl] at hx200_2); (try rw [show ((1 : Int)).toNat = 1 from rfl] at hx200_3); (try rw [show 1 * 4 = 4 from rfl] at hx200_3); replace p200 := eq_true p200; replace q200 := eq_true q200))
                go_ret
                exact ⟨by first | rfl | (simp [errW_none, errW_some] <;> rfl) | (simp [*, errW_none, errW_some] <;> rfl), by repeat (first | (with_reducible first | exact HB.out | apply below_alloc | apply pw_below_drewN | apply below_drew1) | exact HB.out)⟩
            · rw [if_neg c7] at H
              exact absurd H (by simp)
          · rw [if_neg c6] at H
            have c6b0 : (((rd_T31 t194 0).f0) == 1 && (((rd_T31 t194 0).f1) == 0 && (((rd_T31 t194 0).f2) == 2 && ((((rd_T31 t194 0).f3).toList) == ([] : List UInt8))))) = false := by simpa using c6
            (try (have c6b1 : decide (((rd_T31 t194 0).f0) = 1 && (((rd_T31 t194 0).f1) == 0 && (((rd_T31 t194 0).f2) == 2 && ((((rd_T31 t194 0).f3).toList) == ([] : List UInt8))))) = false := by simpa using c6))
            (try (have c6b2 : (((rd_T31 t194 0).f0) == 1 && (((rd_T31 t194 0).f1) == 0 && (((rd_T31 t194 0).f2) == 2 && ((((rd_T31 t194 0).f3).toList) == ([] : List UInt8))))) = false := by simpa using c6))
            (try (have c6b3 : ¬ (((rd_T31 t194 0).f0) = 1 && (((rd_T31 t194 0).f1) == 0 && (((rd_T31 t194 0).f2) == 2 && ((((rd_T31 t194 0).f3).toList) == ([] : List UInt8))))) := by simpa using c6))
            (try (have c6b4 : ¬ ((((rd_T31 t194 0).f0) = 1 ∧ (((rd_T31 t194 0).f1) = 0 ∧ (((rd_T31 t194 0).f2) = 2 ∧ ((((rd_T31 t194 0).f3).toList) = ([] : List UInt8)))))) := by first | simpa using c6 | (intro h_; simp [h_] at c6)))
            clear c6
            obtain rfl := Option.some.inj H
            go_enter Tryz.func8, Tryz.ntmps8
            go_wp2_with (first | ((with_reducible refine gate_callee (f := 9) rfl ?_); refine goesL_ (some 5) rfl rfl Tryz.func9 (by kernel_rfl) rfl #[.string (⟨#[50, 32, 47, 97, 35, 50, 48, 98, 32, 60, 52, 65, 53, 62]⟩ : ByteArray)] rfl (by (try simp only [List.map_toArray, List.map_cons, List.map_nil]); first | done | rfl | (simp only [List.length_drop, List.length_take]; rfl)) ?_; (with_reducible refine (tok_All.calls k (⟨#[50, 32, 47, 97, 35, 50, 48, 98, 32, 60, 52, 65, 53, 62]⟩ : ByteArray) t194 t195 t196 _ ?side1 A1.out).mono ?_); (case side1 => exact GW.below (by repeat (first | (with_reducible first | exact HB.out | apply below_alloc | apply pw_below_drewN | apply below_drew1) | exact HB.out)) HG.out); rintro e w19 ⟨v197, rfl, ho0, hb⟩; refine ⟨_, rfl, ?_⟩; have n0_ := Aside0.mk (Kd.R_lower ho0 (below_size (by repeat (first | (with_reducible first | exact HB.out | apply below_alloc | apply pw_below_drewN | apply below_drew1) | exact HB.out)))); have n1_ := Aside0.mk (below_step (by repeat (first | (with_reducible first | exact HB.out | apply below_alloc | apply pw_below_drewN | apply below_drew1) | exact HB.out)) hb); clear HB; have HO198 := n0_; have HB := n1_; clear n0_ n1_; (try clear hb); (try clear hb2); (try clear hk); (try clear hi); (try clear ho0); obtain ⟨Ao20, co20, eo20⟩ := Kd.R_slice HO198.out; subst eo20; have p199 : 0 ≤ (0 : Int) := (by omega); have q199 : 0 < (t194.length : Int) := of_decide_eq_true (by first | (with_reducible assumption) | assumption); obtain ⟨ad199, e199, hx199_0, hx199_1, hx199_2, hx199_3⟩ := at_T31 (Kd.R_reads' HO198.out).2.2 0 p199 q199; cases e199; have qi199 : (0 < t194.length) = True := eq_true (by omega); (try rw [show ((0 : Int)).toNat = 0 from rfl] at hx199_0); (try rw [show 0 * 4 = 0 from rfl] at hx199_0); (try rw [Addr.add_zero'] at hx199_0); (try rw [show ((0 : Int)).toNat = 0 from rfl] at hx199_1); (try rw [show 0 * 4 = 0 from rfl] at hx199_1); (try rw [Addr.add_zero'] at hx199_1); (try rw [show ((0 : Int)).toNat = 0 from rfl] at hx199_2); (try rw [show 0 * 4 = 0 from rfl] at hx199_2); (try rw [Addr.add_zero'] at hx199_2); (try rw [show ((0 : Int)).toNat = 0 from rfl] at hx199_3); (try rw [show 0 * 4 = 0 from rfl] at hx199_3); (try rw [Addr.add_zero'] at hx199_3); replace p199 := eq_true p199; replace q199 := eq_true q199))
            go_ret
            exact ⟨by first | rfl | (simp [errW_none, errW_some] <;> rfl) | (simp [*, errW_none, errW_some] <;> rfl), by repeat (first | (with_reducible first | exact HB.out | apply below_alloc | apply pw_below_drewN | apply below_drew1) | exact HB.out)⟩
        · rw [if_neg c5] at H
          exact absurd H (by simp)
      · rw [if_neg c4] at H
        have c4b0 : ((t194.length : Int) == 3) = false := beq_eq_false_iff_ne.mpr c4
        have c4b1 : ((t194.length : Int) != 3) = true := bne_iff_ne.mpr c4
        obtain rfl := Option.some.inj H
        go_enter Tryz.func8, Tryz.ntmps8
        go_wp2_with (first | ((with_reducible refine gate_callee (f := 9) rfl ?_); refine goesL_ (some 5) rfl rfl Tryz.func9 (by kernel_rfl) rfl #[.string (⟨#[50, 32, 47, 97, 35, 50, 48, 98, 32, 60, 52, 65, 53, 62]⟩ : ByteArray)] rfl (by (try simp only [List.map_toArray, List.map_cons, List.map_nil]); first | done | rfl | (simp only [List.length_drop, List.length_take]; rfl)) ?_; (with_reducible refine (tok_All.calls k (⟨#[50, 32, 47, 97, 35, 50, 48, 98, 32, 60, 52, 65, 53, 62]⟩ : ByteArray) t194 t195 t196 _ ?side1 A1.out).mono ?_); (case side1 => exact GW.below (by repeat (first | (with_reducible first | exact HB.out | apply below_alloc | apply pw_below_drewN | apply below_drew1) | exact HB.out)) HG.out); rintro e w21 ⟨v197, rfl, ho0, hb⟩; refine ⟨_, rfl, ?_⟩; have n0_ := Aside0.mk (Kd.R_lower ho0 (below_size (by repeat (first | (with_reducible first | exact HB.out | apply below_alloc | apply pw_below_drewN | apply below_drew1) | exact HB.out)))); have n1_ := Aside0.mk (below_step (by repeat (first | (with_reducible first | exact HB.out | apply below_alloc | apply pw_below_drewN | apply below_drew1) | exact HB.out)) hb); clear HB; have HO198 := n0_; have HB := n1_; clear n0_ n1_; (try clear hb); (try clear hb2); (try clear hk); (try clear hi); (try clear ho0); obtain ⟨Ao22, co22, eo22⟩ := Kd.R_slice HO198.out; subst eo22))
        go_ret
        exact ⟨by first | rfl | (simp [errW_none, errW_some] <;> rfl) | (simp [*, errW_none, errW_some] <;> rfl), by repeat (first | (with_reducible first | exact HB.out | apply below_alloc | apply pw_below_drewN | apply below_drew1) | exact HB.out)⟩
    · rw [if_neg c3] at H
      have c3b0 : (t195 == 14) = false := beq_eq_false_iff_ne.mpr c3
      have c3b1 : (t195 != 14) = true := bne_iff_ne.mpr c3
      obtain rfl := Option.some.inj H
      go_enter Tryz.func8, Tryz.ntmps8
      go_wp2_with (first | ((with_reducible refine gate_callee (f := 9) rfl ?_); refine goesL_ (some 5) rfl rfl Tryz.func9 (by kernel_rfl) rfl #[.string (⟨#[50, 32, 47, 97, 35, 50, 48, 98, 32, 60, 52, 65, 53, 62]⟩ : ByteArray)] rfl (by (try simp only [List.map_toArray, List.map_cons, List.map_nil]); first | done | rfl | (simp only [List.length_drop, List.length_take]; rfl)) ?_; (with_reducible refine (tok_All.calls k (⟨#[50, 32, 47, 97, 35, 50, 48, 98, 32, 60, 52, 65, 53, 62]⟩ : ByteArray) t194 t195 t196 _ ?side1 A1.out).mono ?_); (case side1 => exact GW.below (by repeat (first | (with_reducible first | exact HB.out | apply below_alloc | apply pw_below_drewN | apply below_drew1) | exact HB.out)) HG.out); rintro e w23 ⟨v197, rfl, ho0, hb⟩; refine ⟨_, rfl, ?_⟩; have n0_ := Aside0.mk (Kd.R_lower ho0 (below_size (by repeat (first | (with_reducible first | exact HB.out | apply below_alloc | apply pw_below_drewN | apply below_drew1) | exact HB.out)))); have n1_ := Aside0.mk (below_step (by repeat (first | (with_reducible first | exact HB.out | apply below_alloc | apply pw_below_drewN | apply below_drew1) | exact HB.out)) hb); clear HB; have HO198 := n0_; have HB := n1_; clear n0_ n1_; (try clear hb); (try clear hb2); (try clear hk); (try clear hi); (try clear ho0)))
      go_ret
      exact ⟨by first | rfl | (simp [errW_none, errW_some] <;> rfl) | (simp [*, errW_none, errW_some] <;> rfl), by repeat (first | (with_reducible first | exact HB.out | apply below_alloc | apply pw_below_drewN | apply below_drew1) | exact HB.out)⟩
  · rw [if_neg c2] at H
    have c2b0 : (t196 == 0) = false := beq_eq_false_iff_ne.mpr c2
    have c2b1 : (t196 != 0) = true := bne_iff_ne.mpr c2
    obtain rfl := Option.some.inj H
    go_enter Tryz.func8, Tryz.ntmps8
    go_wp2_with (first | ((with_reducible refine gate_callee (f := 9) rfl ?_); refine goesL_ (some 5) rfl rfl Tryz.func9 (by kernel_rfl) rfl #[.string (⟨#[50, 32, 47, 97, 35, 50, 48, 98, 32, 60, 52, 65, 53, 62]⟩ : ByteArray)] rfl (by (try simp only [List.map_toArray, List.map_cons, List.map_nil]); first | done | rfl | (simp only [List.length_drop, List.length_take]; rfl)) ?_; (with_reducible refine (tok_All.calls k (⟨#[50, 32, 47, 97, 35, 50, 48, 98, 32, 60, 52, 65, 53, 62]⟩ : ByteArray) t194 t195 t196 _ ?side1 A1.out).mono ?_); (case side1 => exact GW.below (by repeat (first | (with_reducible first | exact HB.out | apply below_alloc | apply pw_below_drewN | apply below_drew1) | exact HB.out)) HG.out); rintro e w24 ⟨v197, rfl, ho0, hb⟩; refine ⟨_, rfl, ?_⟩; have n0_ := Aside0.mk (Kd.R_lower ho0 (below_size (by repeat (first | (with_reducible first | exact HB.out | apply below_alloc | apply pw_below_drewN | apply below_drew1) | exact HB.out)))); have n1_ := Aside0.mk (below_step (by repeat (first | (with_reducible first | exact HB.out | apply below_alloc | apply pw_below_drewN | apply below_drew1) | exact HB.out)) hb); clear HB; have HO198 := n0_; have HB := n1_; clear n0_ n1_; (try clear hb); (try clear hb2); (try clear hk); (try clear hi); (try clear ho0)))
    go_ret
    exact ⟨by first | rfl | (simp [errW_none, errW_some] <;> rfl) | (simp [*, errW_none, errW_some] <;> rfl), by repeat (first | (with_reducible first | exact HB.out | apply below_alloc | apply pw_below_drewN | apply below_drew1) | exact HB.out)⟩
end Go.Proofs.YtfdikkdbmlcjiaaGreatDoor.M
end
section
/- Laid by this session's program hbprint.py out of the translation: the function hornbook/hornbooklaw04.TokKinds and its contract. -/
namespace Go.Proofs.YtfdikkdbmlcjiaaGreatDoor.M
open Go.RowKit Go.Proofs.YtfdikkdbmlcjiaaGreatDoorW.PrintWords Go.Proofs.YtfdikkdbmlcjiaaGreatDoorW.PrintLast Go.Proofs.YtfdikkdbmlcjiaaGreatDoorW.PrintMore
attribute [local go_sem] max2_int min2_int max_two min_two max_three min_three max_four min_four
set_option linter.unusedVariables false
set_option linter.unusedSimpArgs false
mutual
def hornbooklaw04_TokKinds.j0 : Nat → List Int → Bool → Int → Bool → Int → Int → Int → ByteArray → Option (Bool)
  | 0, _, _, _, _, _, _, _, _ => none
  | k + 1, x2, x7, x23, x30, x269000, x269001, x269002, x269003 => if x30 = true then ((tok_Show.f x269000 x269001 x269002 (strOfNums x2)).bind fun t279 => (if 6 + t279.size ≤ 9223372036854775807 then (if ((⟨#[32, 37, 32, 120, 10, 32]⟩ : ByteArray) ++ t279).size + 2 ≤ 9223372036854775807 then ((tok_All.f k (((⟨#[32, 37, 32, 120, 10, 32]⟩ : ByteArray) ++ t279) ++ (⟨#[32, 37]⟩ : ByteArray))).bind fun bt280 => (if x7 = true then (if bt280.2.2 = 0 then ((hornbookref04_Alike.f k bt280.1 (([(⟨x269000, x269001, x269002, strOfNums x2⟩ : S31)] : List (S31)))).bind fun t288 => (some t288)) else (some false)) else (some false))) else (none)) else (none))) else (if x23 = 3 then (hornbooklaw04_TokKinds.j1 k x7 (x23 == 3) x269000 x269001 x269002 x269003) else (hornbooklaw04_TokKinds.j1 k x7 (x23 == 0) x269000 x269001 x269002 x269003))
def hornbooklaw04_TokKinds.j1 : Nat → Bool → Bool → Int → Int → Int → ByteArray → Option (Bool)
  | 0, _, _, _, _, _, _ => none
  | k + 1, x7, x37, x269000, x269001, x269002, x269003 => if x37 = true then (some x7) else ((tok_Show.f x269000 x269001 x269002 x269003).bind fun t289 => (if 6 + t289.size ≤ 9223372036854775807 then (if ((⟨#[32, 37, 32, 120, 10, 32]⟩ : ByteArray) ++ t289).size + 2 ≤ 9223372036854775807 then ((tok_All.f k (((⟨#[32, 37, 32, 120, 10, 32]⟩ : ByteArray) ++ t289) ++ (⟨#[32, 37]⟩ : ByteArray))).bind fun bt290 => (if x7 = true then (if bt290.2.2 = 0 then ((hornbookref04_Alike.f k bt290.1 (([(⟨x269000, x269001, x269002, x269003⟩ : S31)] : List (S31)))).bind fun t298 => (some t298)) else (some false)) else (some false))) else (none)) else (none)))
end
def hornbooklaw04_TokKinds.f (k : Nat) (a0 : Int) (a1 : Int) (l2 : List Int) : Option (Bool) := (hornbooklaw04_awake.f k).bind fun t267 => (if (l2.length : Int) > 200 then (some t267) else (if (Int.tmod (Go.bits .and .i64 a0 65535) 12) = 1 then ((tok_Show.f (Int.tmod (Go.bits .and .i64 a0 65535) 12) 0 (wrap64 ((Go.bits .and .i64 a1 4294967295) - 2147483648)) (⟨#[]⟩ : ByteArray)).bind fun t269 => (if 6 + t269.size ≤ 9223372036854775807 then (if ((⟨#[32, 37, 32, 120, 10, 32]⟩ : ByteArray) ++ t269).size + 2 ≤ 9223372036854775807 then ((tok_All.f k (((⟨#[32, 37, 32, 120, 10, 32]⟩ : ByteArray) ++ t269) ++ (⟨#[32, 37]⟩ : ByteArray))).bind fun bt270 => (if t267 = true then (if bt270.2.2 = 0 then ((hornbookref04_Alike.f k bt270.1 (([(⟨Int.tmod (Go.bits .and .i64 a0 65535) 12, 0, wrap64 ((Go.bits .and .i64 a1 4294967295) - 2147483648), (⟨#[]⟩ : ByteArray)⟩ : S31)] : List (S31)))).bind fun t278 => (some t278)) else (some false)) else (some false))) else (none)) else (none))) else (if (Int.tmod (Go.bits .and .i64 a0 65535) 12) = 2 then (hornbooklaw04_TokKinds.j0 k l2 t267 (Int.tmod (Go.bits .and .i64 a0 65535) 12) ((Int.tmod (Go.bits .and .i64 a0 65535) 12) == 2) (Int.tmod (Go.bits .and .i64 a0 65535) 12) 0 0 (⟨#[]⟩ : ByteArray)) else (if (Int.tmod (Go.bits .and .i64 a0 65535) 12) = 4 then (hornbooklaw04_TokKinds.j0 k l2 t267 (Int.tmod (Go.bits .and .i64 a0 65535) 12) ((Int.tmod (Go.bits .and .i64 a0 65535) 12) == 4) (Int.tmod (Go.bits .and .i64 a0 65535) 12) 0 0 (⟨#[]⟩ : ByteArray)) else (hornbooklaw04_TokKinds.j0 k l2 t267 (Int.tmod (Go.bits .and .i64 a0 65535) 12) ((Int.tmod (Go.bits .and .i64 a0 65535) 12) == 5) (Int.tmod (Go.bits .and .i64 a0 65535) 12) 0 0 (⟨#[]⟩ : ByteArray))))))
set_option maxHeartbeats 8000000 in
set_option maxRecDepth 100000 in
theorem hornbooklaw04_TokKinds.calls (k : Nat) (a0 : Int) (a1 : Int) (A2 : Option Addr) (c2 : Nat) (l2 : List Int) (r : Bool) (w : World) (hG : GW w) (hr2 : Kd.C (Kd.int .u8) w A2 l2.length l2) (hc2 : l2.length ≤ c2) (h : hornbooklaw04_TokKinds.f k a0 a1 l2 = some r) :
    Calls Tryz.prog 6 #[.int .i64 a0, .int .i64 a1, .slice A2 l2.length c2] w fun e w' => e = .returned (.bool r) ∧ Below w.heap.size w w' := by
  have hu31 := Tryz.underlying31
  have HR2 := Aside0.mk hr2
  have HC2 := Aside0.mk hc2
  clear hr2 hc2
  have HG := Aside0.mk hG
  clear hG
  have HB := Aside0.mk (Below.refl w.heap.size w)
  unfold hornbooklaw04_TokKinds.f at h
  obtain ⟨kd_, hkd_⟩ : ∃ y_ : Int, Int.tmod (Go.bits .and .i64 a0 65535) 12 = y_ := ⟨_, rfl⟩
  obtain ⟨bb_, hbb_⟩ : ∃ y_ : Int, Go.bits .and .i64 a1 4294967295 = y_ := ⟨_, rfl⟩
  obtain ⟨nn_, hnn_⟩ : ∃ y_ : Int, wrap64 (bb_ - 2147483648) = y_ := ⟨_, rfl⟩
  simp only [hkd_, hbb_, hnn_] at h
  have H : ((hornbooklaw04_awake.f k).bind fun t267 => (if (l2.length : Int) > 200 then (some t267) else (if kd_ = 1 then ((tok_Show.f kd_ 0 nn_ (⟨#[]⟩ : ByteArray)).bind fun t269 => (if 6 + t269.size ≤ 9223372036854775807 then (if ((⟨#[32, 37, 32, 120, 10, 32]⟩ : ByteArray) ++ t269).size + 2 ≤ 9223372036854775807 then ((tok_All.f k (((⟨#[32, 37, 32, 120, 10, 32]⟩ : ByteArray) ++ t269) ++ (⟨#[32, 37]⟩ : ByteArray))).bind fun bt270 => (if t267 = true then (if bt270.2.2 = 0 then ((hornbookref04_Alike.f k bt270.1 (([(⟨kd_, 0, nn_, (⟨#[]⟩ : ByteArray)⟩ : S31)] : List (S31)))).bind fun t278 => (some t278)) else (some false)) else (some false))) else (none)) else (none))) else (if kd_ = 2 then (hornbooklaw04_TokKinds.j0 k l2 t267 kd_ (kd_ == 2) kd_ 0 0 (⟨#[]⟩ : ByteArray)) else (if kd_ = 4 then (hornbooklaw04_TokKinds.j0 k l2 t267 kd_ (kd_ == 4) kd_ 0 0 (⟨#[]⟩ : ByteArray)) else (hornbooklaw04_TokKinds.j0 k l2 t267 kd_ (kd_ == 5) kd_ 0 0 (⟨#[]⟩ : ByteArray))))))) = some r := h
  clear h
  replace H := Option.bind_eq_some_iff.mp H
  obtain ⟨t267, A40, H⟩ := H
  replace H : (if (l2.length : Int) > 200 then (some t267) else (if kd_ = 1 then ((tok_Show.f kd_ 0 nn_ (⟨#[]⟩ : ByteArray)).bind fun t269 => (if 6 + t269.size ≤ 9223372036854775807 then (if ((⟨#[32, 37, 32, 120, 10, 32]⟩ : ByteArray) ++ t269).size + 2 ≤ 9223372036854775807 then ((tok_All.f k (((⟨#[32, 37, 32, 120, 10, 32]⟩ : ByteArray) ++ t269) ++ (⟨#[32, 37]⟩ : ByteArray))).bind fun bt270 => (if t267 = true then (if bt270.2.2 = 0 then ((hornbookref04_Alike.f k bt270.1 (([(⟨kd_, 0, nn_, (⟨#[]⟩ : ByteArray)⟩ : S31)] : List (S31)))).bind fun t278 => (some t278)) else (some false)) else (some false))) else (none)) else (none))) else (if kd_ = 2 then (hornbooklaw04_TokKinds.j0 k l2 t267 kd_ (kd_ == 2) kd_ 0 0 (⟨#[]⟩ : ByteArray)) else (if kd_ = 4 then (hornbooklaw04_TokKinds.j0 k l2 t267 kd_ (kd_ == 4) kd_ 0 0 (⟨#[]⟩ : ByteArray)) else (hornbooklaw04_TokKinds.j0 k l2 t267 kd_ (kd_ == 5) kd_ 0 0 (⟨#[]⟩ : ByteArray)))))) = some r := H
  have A4 := Aside0.mk A40
  clear A40
  by_cases c5 : (l2.length : Int) > 200
  · rw [if_pos c5] at H
    have c5b0 : decide (200 < (l2.length : Int)) = true := decide_eq_true c5
    have c5b1 : decide (200 < l2.length) = true := decide_eq_true (by omega)
    clear c5
    obtain rfl := Option.some.inj H
    go_enter Tryz.func6, Tryz.ntmps6
    go_wp2_with (first | ((with_reducible refine gate_callee (f := 8) rfl ?_); refine goesL_ (some 13) rfl rfl Tryz.func8 (by kernel_rfl) rfl #[] rfl (by (try simp only [List.map_toArray, List.map_cons, List.map_nil]); first | done | rfl | (simp only [List.length_drop, List.length_take]; rfl)) ?_; (with_reducible refine (hornbooklaw04_awake.calls k  t267 _ ?side1 A4.out).mono ?_); (case side1 => exact GW.below (by repeat (first | (with_reducible first | exact HB.out | apply below_alloc | apply pw_below_drewN | apply below_drew1) | exact HB.out)) HG.out); rintro e w6 ⟨rfl, hb⟩; refine ⟨_, rfl, ?_⟩; have n0_ := Aside0.mk (below_step (by repeat (first | (with_reducible first | exact HB.out | apply below_alloc | apply pw_below_drewN | apply below_drew1) | exact HB.out)) hb); clear HB; have HB := n0_; clear n0_; (try clear hb); (try clear hb2); (try clear hk); (try clear hi)))
    go_ret
    exact ⟨by first | rfl | (simp [errW_none, errW_some] <;> rfl) | (simp [*, errW_none, errW_some] <;> rfl), by repeat (first | (with_reducible first | exact HB.out | apply below_alloc | apply pw_below_drewN | apply below_drew1) | exact HB.out)⟩
  · rw [if_neg c5] at H
    have c5b0 : decide (200 < (l2.length : Int)) = false := decide_eq_false c5
    have c5b1 : decide (200 < l2.length) = false := decide_eq_false (by omega)
    clear c5
    by_cases c7 : kd_ = 1
    · rw [if_pos c7] at H
      have c7b0 : (kd_ == 1) = true := beq_iff_eq.mpr c7
      have c7b1 : (kd_ != 1) = false := bne_eq_false_iff_eq.mpr c7
      clear c7
      replace H := Option.bind_eq_some_iff.mp H
      obtain ⟨t269, A80, H⟩ := H
      replace H : (if 6 + t269.size ≤ 9223372036854775807 then (if ((⟨#[32, 37, 32, 120, 10, 32]⟩ : ByteArray) ++ t269).size + 2 ≤ 9223372036854775807 then ((tok_All.f k (((⟨#[32, 37, 32, 120, 10, 32]⟩ : ByteArray) ++ t269) ++ (⟨#[32, 37]⟩ : ByteArray))).bind fun bt270 => (if t267 = true then (if bt270.2.2 = 0 then ((hornbookref04_Alike.f k bt270.1 (([(⟨kd_, 0, nn_, (⟨#[]⟩ : ByteArray)⟩ : S31)] : List (S31)))).bind fun t278 => (some t278)) else (some false)) else (some false))) else (none)) else (none)) = some r := H
      have A8 := Aside0.mk A80
      clear A80
      by_cases c9 : 6 + t269.size ≤ 9223372036854775807
      · rw [if_pos c9] at H
        have c9b0 := eq_true c9
        have c9b1 : decide (6 + t269.size ≤ 9223372036854775807) = true := decide_eq_true c9
        try have c9b2 : (9223372036854775807 < 6 + t269.size) = False := eq_false (Nat.not_lt.2 c9)
        by_cases c10 : ((⟨#[32, 37, 32, 120, 10, 32]⟩ : ByteArray) ++ t269).size + 2 ≤ 9223372036854775807
        · rw [if_pos c10] at H
          have c10b0 := eq_true c10
          have c10b1 : decide (((⟨#[32, 37, 32, 120, 10, 32]⟩ : ByteArray) ++ t269).size + 2 ≤ 9223372036854775807) = true := decide_eq_true c10
          try have c10b2 : (9223372036854775807 < ((⟨#[32, 37, 32, 120, 10, 32]⟩ : ByteArray) ++ t269).size + 2) = False := eq_false (Nat.not_lt.2 c10)
          try have c10b9 : (9223372036854775807 < (6 + t269.size) + 2) = False := eq_false (Nat.not_lt.2 (by have h_ := c10; (repeat rw [ByteArray.size_append] at h_); exact h_))
          replace H := Option.bind_eq_some_iff.mp H
          obtain ⟨⟨t270, t271, t272⟩, A110, H⟩ := H
          replace H : (if t267 = true then (if t272 = 0 then ((hornbookref04_Alike.f k t270 (([(⟨kd_, 0, nn_, (⟨#[]⟩ : ByteArray)⟩ : S31)] : List (S31)))).bind fun t278 => (some t278)) else (some false)) else (some false)) = some r := H
          have A11 := Aside0.mk A110
          clear A110
          by_cases c12 : t267 = true
          · subst c12
            have H1 : (if t272 = 0 then ((hornbookref04_Alike.f k t270 (([(⟨kd_, 0, nn_, (⟨#[]⟩ : ByteArray)⟩ : S31)] : List (S31)))).bind fun t278 => (some t278)) else (some false)) = some r := by rw [if_pos rfl] at H; exact H
            clear H
            have H := H1
            clear H1
            by_cases c13 : t272 = 0
            · rw [if_pos c13] at H
              have c13b0 : (t272 == 0) = true := beq_iff_eq.mpr c13
              have c13b1 : (t272 != 0) = false := bne_eq_false_iff_eq.mpr c13
              clear c13
              obtain ⟨y275, hy275⟩ : ∃ y_ : List (S31), y_ = (([(⟨kd_, 0, nn_, (⟨#[]⟩ : ByteArray)⟩ : S31)] : List (S31))) := ⟨_, rfl⟩
              replace H : ((hornbookref04_Alike.f k t270 y275).bind fun t278 => (some t278)) = some r := by first | (rw [hy275]; with_reducible exact H) | (have H2_ := (Option.bind_some _ _).symm.trans H; rw [hy275]; with_reducible exact H2_) | (have H2_ := (Option.bind_some _ _).symm.trans H; with_reducible exact H2_) | with_reducible exact H | (rw [hy275]; exact H) | exact H
              have Ny275 := Aside0.mk hy275
              clear hy275
              replace H := Option.bind_eq_some_iff.mp H
              obtain ⟨t278, A140, H⟩ := H
              replace H : (some t278) = some r := H
              have A14 := Aside0.mk A140
              clear A140
              obtain rfl := Option.some.inj H
              go_enter Tryz.func6, Tryz.ntmps6
              go_wp2_with (first | ((with_reducible refine gate_callee (f := 8) rfl ?_); refine goesL_ (some 13) rfl rfl Tryz.func8 (by kernel_rfl) rfl #[] rfl (by (try simp only [List.map_toArray, List.map_cons, List.map_nil]); first | done | rfl | (simp only [List.length_drop, List.length_take]; rfl)) ?_; (with_reducible refine (hornbooklaw04_awake.calls k  true _ ?side1 A4.out).mono ?_); (case side1 => exact GW.below (by repeat (first | (with_reducible first | exact HB.out | apply below_alloc | apply pw_below_drewN | apply below_drew1) | exact HB.out)) HG.out); rintro e w15 ⟨rfl, hb⟩; refine ⟨_, rfl, ?_⟩; have n0_ := Aside0.mk (below_step (by repeat (first | (with_reducible first | exact HB.out | apply below_alloc | apply pw_below_drewN | apply below_drew1) | exact HB.out)) hb); clear HB; have HB := n0_; clear n0_; (try clear hb); (try clear hb2); (try clear hk); (try clear hi)) | (go_at_call 14; have bk_ := blk_new w15 (.cells #[.int .i64 kd_, .int .i64 0, .int .i64 nn_, .string (⟨#[]⟩ : ByteArray)] 31 (0, 0)); have hx_ := below_alloc HB.out (.cells #[.int .i64 kd_, .int .i64 0, .int .i64 nn_, .string (⟨#[]⟩ : ByteArray)] 31 (0, 0)); (with_reducible refine (tok_Show.calls kd_ 0 nn_ (⟨#[]⟩ : ByteArray) t269 _ ?side1 A8.out).mono ?_); (case side1 => exact GW.below hx_ HG.out); rintro e w18 ⟨rfl, hb⟩; obtain ⟨gb268, hg_⟩ : ∃ g_ : Nat, w15.heap.size = g_ := ⟨_, rfl⟩; rw [hg_] at bk_; rw [hg_]; have n0_ := Aside0.mk (blk_below bk_ hb); have n1_ := Aside0.mk (below_step hx_ hb); have n2_ := Aside0.mk (show w.heap.size ≤ gb268 from hg_ ▸ below_size HB.out); clear bk_ hx_ hb hg_ HB; have BK268 := n0_; have HB := n1_; have GE268 := n2_; clear n0_ n1_ n2_) | ((with_reducible refine gate_callee (f := 9) rfl ?_); refine goesL_ (some 46) rfl rfl Tryz.func9 (by kernel_rfl) rfl #[.string (((⟨#[32, 37, 32, 120, 10, 32]⟩ : ByteArray) ++ t269) ++ (⟨#[32, 37]⟩ : ByteArray))] rfl (by (try simp only [List.map_toArray, List.map_cons, List.map_nil]); first | done | rfl | (simp only [List.length_drop, List.length_take]; rfl)) ?_; (with_reducible refine (tok_All.calls k (((⟨#[32, 37, 32, 120, 10, 32]⟩ : ByteArray) ++ t269) ++ (⟨#[32, 37]⟩ : ByteArray)) t270 t271 t272 _ ?side1 A11.out).mono ?_); (case side1 => exact GW.below (by repeat (first | (with_reducible first | exact HB.out | apply below_alloc | apply pw_below_drewN | apply below_drew1 | refine below_set ?_ GE268.out) | exact HB.out)) HG.out); rintro e w19 ⟨v273, rfl, ho0, hb⟩; refine ⟨_, rfl, ?_⟩; have n0_ := Aside0.mk (Kd.R_lower (Kd.R_newB ho0 (g := gb268) (o := .cells #[.int .i64 kd_, .int .i64 0, .int .i64 nn_, .string (⟨#[]⟩ : ByteArray)] 31 (0, 0)) (by (with_reducible repeat (first | refine blk_drewN ?_ _ | refine blk_drew ?_ | refine blk_alloc ?_ _)); exact BK268.out)) (below_size (by repeat (first | (with_reducible first | exact HB.out | apply below_alloc | apply pw_below_drewN | apply below_drew1 | refine below_set ?_ GE268.out) | exact HB.out)))); have n1_ := Aside0.mk (blk_below (g := gb268) (o := .cells #[.int .i64 kd_, .int .i64 0, .int .i64 nn_, .string (⟨#[]⟩ : ByteArray)] 31 (0, 0)) (by (with_reducible repeat (first | refine blk_drewN ?_ _ | refine blk_drew ?_ | refine blk_alloc ?_ _)); exact BK268.out) hb); have n2_ := Aside0.mk (below_step (by repeat (first | (with_reducible first | exact HB.out | apply below_alloc | apply pw_below_drewN | apply below_drew1 | refine below_set ?_ GE268.out) | exact HB.out)) hb); clear BK268; clear HB; have HO274 := n0_; have BK268 := n1_; have HB := n2_; clear n0_ n1_ n2_; (try clear hb); (try clear hb2); (try clear hk); (try clear hi); (try clear ho0); have hcz20_0 : w19.cell? ⟨gb268, 0, none⟩ = some (.int .i64 kd_) := (blk_cell BK268.out 0).trans rfl; have hcz20_1 : w19.cell? ⟨gb268, 1, none⟩ = some (.int .i64 0) := (blk_cell BK268.out 1).trans rfl; have hcz20_2 : w19.cell? ⟨gb268, 2, none⟩ = some (.int .i64 nn_) := (blk_cell BK268.out 2).trans rfl; have hcz20_3 : w19.cell? ⟨gb268, 3, none⟩ = some (.string (⟨#[]⟩ : ByteArray)) := (blk_cell BK268.out 3).trans rfl; have hfz20_0 := blk_frozen BK268.out 0; have hfz20_1 := blk_frozen BK268.out 1; have hfz20_2 := blk_frozen BK268.out 2; have hfz20_3 := blk_frozen BK268.out 3) | ((with_reducible refine gate_dst (N := 58) rfl ?_); (try (refine gate_guard (by rfl) ?_; dsimp only)); refine Kd.R_lit k31 _ 31 ?hg (N := 58) ?hd (xs := ([(⟨kd_, 0, nn_, (⟨#[]⟩ : ByteArray)⟩ : S31)] : List (S31))) (inner := [.int .i64 kd_, .int .i64 0, .int .i64 nn_, .string (⟨#[]⟩ : ByteArray)]) (ok := fun _ => True) (okp := fun _ => True) ?hr ?hp (fun _ hk => hk) trivial (Below.refl _ _) (Nat.le_refl _) (by simp) ?_; (case hd => rfl); (case hg => rfl); (case hr => first | (go_simp; done) | (go_simp; rfl)); (case hp => exact (Reps.c4 (show Kd.M k31 _ _ _ (⟨kd_, 0, nn_, (⟨#[]⟩ : ByteArray)⟩ : S31) [.int .i64 kd_, .int .i64 0, .int .i64 nn_, .string (⟨#[]⟩ : ByteArray)] from (k31_mkM _ _ _ (⟨kd_, 0, nn_, (⟨#[]⟩ : ByteArray)⟩ : S31) )) (Reps.none _ _))); intro v276 w21 ho22 hb hg_ hnew_; clear hg_ hnew_; (first | rw [← Ny275.out] at ho22 | (simp only [Int.reduceToNat] at ho22; rw [← Ny275.out] at ho22)); have n0_ := Aside0.mk (Kd.R_elder' (by (with_reducible repeat (first | apply Kd.R_alloc | apply Kd.R_drewN | apply Kd.R_drew)); exact HO274.out) (Kd.R_base ho22) hb); have n1_ := Aside0.mk (Kd.R_lower (Kd.R_newB (Kd.R_new' ho22 (Kd.R_lt (by (with_reducible repeat (first | apply Kd.R_alloc | apply Kd.R_drewN | apply Kd.R_drew)); exact HO274.out))) (g := gb268) (o := .cells #[.int .i64 kd_, .int .i64 0, .int .i64 nn_, .string (⟨#[]⟩ : ByteArray)] 31 (0, 0)) (by (with_reducible repeat (first | refine blk_drewN ?_ _ | refine blk_drew ?_ | refine blk_alloc ?_ _)); exact BK268.out)) (below_size (by repeat (first | (with_reducible first | exact HB.out | apply below_alloc | apply pw_below_drewN | apply below_drew1 | refine below_set ?_ GE268.out) | exact HB.out)))); have n2_ := Aside0.mk (blk_below (g := gb268) (o := .cells #[.int .i64 kd_, .int .i64 0, .int .i64 nn_, .string (⟨#[]⟩ : ByteArray)] 31 (0, 0)) (by (with_reducible repeat (first | refine blk_drewN ?_ _ | refine blk_drew ?_ | refine blk_alloc ?_ _)); exact BK268.out) hb); have n3_ := Aside0.mk (below_step (by repeat (first | (with_reducible first | exact HB.out | apply below_alloc | apply pw_below_drewN | apply below_drew1 | refine below_set ?_ GE268.out) | exact HB.out)) hb); clear HO274; clear BK268; clear HB; have HO274 := n0_; have HO277 := n1_; have BK268 := n2_; have HB := n3_; clear n0_ n1_ n2_ n3_; clear hb ho22; obtain ⟨Ao23, co23, eo23⟩ := Kd.R_slice HO274.out; subst eo23; obtain ⟨Ao24, co24, eo24⟩ := Kd.R_slice HO277.out; subst eo24) | (go_at_call 11; (with_reducible refine (hornbookref04_Alike.calls k _ _ t270 _ _ y275 t278 _ ?side1 ?side2 ?side3 ?side4 A14.out).mono ?_); (case side1 => repeat (first | exact (Kd.R_reads' HO274.out).2.2 | (with_reducible refine Kd.C_alloc ?_ _) | (with_reducible refine Kd.C_drewN ?_ _) | (with_reducible refine Kd.C_drew ?_))); (case side2 => exact (Kd.R_reads' HO274.out).2.1); (case side3 => repeat (first | exact (Kd.R_reads' HO277.out).2.2 | (with_reducible refine Kd.C_alloc ?_ _) | (with_reducible refine Kd.C_drewN ?_ _) | (with_reducible refine Kd.C_drew ?_))); (case side4 => exact (Kd.R_reads' HO277.out).2.1); rintro e w' ⟨rfl, ⟨nd, rfl⟩⟩))
              go_ret
              exact ⟨by first | rfl | (simp [errW_none, errW_some] <;> rfl) | (simp [*, errW_none, errW_some] <;> rfl), by repeat (first | (with_reducible first | exact HB.out | apply below_alloc | apply pw_below_drewN | apply below_drew1 | refine below_set ?_ GE268.out) | exact HB.out)⟩
            · rw [if_neg c13] at H
              have c13b0 : (t272 == 0) = false := beq_eq_false_iff_ne.mpr c13
              have c13b1 : (t272 != 0) = true := bne_iff_ne.mpr c13
              obtain rfl := Option.some.inj H
              go_enter Tryz.func6, Tryz.ntmps6
              go_wp2_with (first | ((with_reducible refine gate_callee (f := 8) rfl ?_); refine goesL_ (some 13) rfl rfl Tryz.func8 (by kernel_rfl) rfl #[] rfl (by (try simp only [List.map_toArray, List.map_cons, List.map_nil]); first | done | rfl | (simp only [List.length_drop, List.length_take]; rfl)) ?_; (with_reducible refine (hornbooklaw04_awake.calls k  true _ ?side1 A4.out).mono ?_); (case side1 => exact GW.below (by repeat (first | (with_reducible first | exact HB.out | apply below_alloc | apply pw_below_drewN | apply below_drew1) | exact HB.out)) HG.out); rintro e w25 ⟨rfl, hb⟩; refine ⟨_, rfl, ?_⟩; have n0_ := Aside0.mk (below_step (by repeat (first | (with_reducible first | exact HB.out | apply below_alloc | apply pw_below_drewN | apply below_drew1) | exact HB.out)) hb); clear HB; have HB := n0_; clear n0_; (try clear hb); (try clear hb2); (try clear hk); (try clear hi)) | (go_at_call 14; have bk_ := blk_new w25 (.cells #[.int .i64 kd_, .int .i64 0, .int .i64 nn_, .string (⟨#[]⟩ : ByteArray)] 31 (0, 0)); have hx_ := below_alloc HB.out (.cells #[.int .i64 kd_, .int .i64 0, .int .i64 nn_, .string (⟨#[]⟩ : ByteArray)] 31 (0, 0)); (with_reducible refine (tok_Show.calls kd_ 0 nn_ (⟨#[]⟩ : ByteArray) t269 _ ?side1 A8.out).mono ?_); (case side1 => exact GW.below hx_ HG.out); rintro e w28 ⟨rfl, hb⟩; obtain ⟨gb268, hg_⟩ : ∃ g_ : Nat, w25.heap.size = g_ := ⟨_, rfl⟩; rw [hg_] at bk_; rw [hg_]; have n0_ := Aside0.mk (blk_below bk_ hb); have n1_ := Aside0.mk (below_step hx_ hb); have n2_ := Aside0.mk (show w.heap.size ≤ gb268 from hg_ ▸ below_size HB.out); clear bk_ hx_ hb hg_ HB; have BK268 := n0_; have HB := n1_; have GE268 := n2_; clear n0_ n1_ n2_) | ((with_reducible refine gate_callee (f := 9) rfl ?_); refine goesL_ (some 46) rfl rfl Tryz.func9 (by kernel_rfl) rfl #[.string (((⟨#[32, 37, 32, 120, 10, 32]⟩ : ByteArray) ++ t269) ++ (⟨#[32, 37]⟩ : ByteArray))] rfl (by (try simp only [List.map_toArray, List.map_cons, List.map_nil]); first | done | rfl | (simp only [List.length_drop, List.length_take]; rfl)) ?_; (with_reducible refine (tok_All.calls k (((⟨#[32, 37, 32, 120, 10, 32]⟩ : ByteArray) ++ t269) ++ (⟨#[32, 37]⟩ : ByteArray)) t270 t271 t272 _ ?side1 A11.out).mono ?_); (case side1 => exact GW.below (by repeat (first | (with_reducible first | exact HB.out | apply below_alloc | apply pw_below_drewN | apply below_drew1 | refine below_set ?_ GE268.out) | exact HB.out)) HG.out); rintro e w29 ⟨v273, rfl, ho0, hb⟩; refine ⟨_, rfl, ?_⟩; have n0_ := Aside0.mk (Kd.R_lower (Kd.R_newB ho0 (g := gb268) (o := .cells #[.int .i64 kd_, .int .i64 0, .int .i64 nn_, .string (⟨#[]⟩ : ByteArray)] 31 (0, 0)) (by (with_reducible repeat (first | refine blk_drewN ?_ _ | refine blk_drew ?_ | refine blk_alloc ?_ _)); exact BK268.out)) (below_size (by repeat (first | (with_reducible first | exact HB.out | apply below_alloc | apply pw_below_drewN | apply below_drew1 | refine below_set ?_ GE268.out) | exact HB.out)))); have n1_ := Aside0.mk (blk_below (g := gb268) (o := .cells #[.int .i64 kd_, .int .i64 0, .int .i64 nn_, .string (⟨#[]⟩ : ByteArray)] 31 (0, 0)) (by (with_reducible repeat (first | refine blk_drewN ?_ _ | refine blk_drew ?_ | refine blk_alloc ?_ _)); exact BK268.out) hb); have n2_ := Aside0.mk (below_step (by repeat (first | (with_reducible first | exact HB.out | apply below_alloc | apply pw_below_drewN | apply below_drew1 | refine below_set ?_ GE268.out) | exact HB.out)) hb); clear BK268; clear HB; have HO274 := n0_; have BK268 := n1_; have HB := n2_; clear n0_ n1_ n2_; (try clear hb); (try clear hb2); (try clear hk); (try clear hi); (try clear ho0)))
              go_ret
              exact ⟨by first | rfl | (simp [errW_none, errW_some] <;> rfl) | (simp [*, errW_none, errW_some] <;> rfl), by repeat (first | (with_reducible first | exact HB.out | apply below_alloc | apply pw_below_drewN | apply below_drew1 | refine below_set ?_ GE268.out) | exact HB.out)⟩
          · replace c12 := Bool.eq_false_iff.mpr c12
            subst c12
            have H1 : (some false) = some r := by rw [if_neg (show ¬ (false = true) by decide)] at H; exact H
            clear H
            have H := H1
            clear H1
            obtain rfl := Option.some.inj H
            go_enter Tryz.func6, Tryz.ntmps6
            go_wp2_with (first | ((with_reducible refine gate_callee (f := 8) rfl ?_); refine goesL_ (some 13) rfl rfl Tryz.func8 (by kernel_rfl) rfl #[] rfl (by (try simp only [List.map_toArray, List.map_cons, List.map_nil]); first | done | rfl | (simp only [List.length_drop, List.length_take]; rfl)) ?_; (with_reducible refine (hornbooklaw04_awake.calls k  false _ ?side1 A4.out).mono ?_); (case side1 => exact GW.below (by repeat (first | (with_reducible first | exact HB.out | apply below_alloc | apply pw_below_drewN | apply below_drew1) | exact HB.out)) HG.out); rintro e w30 ⟨rfl, hb⟩; refine ⟨_, rfl, ?_⟩; have n0_ := Aside0.mk (below_step (by repeat (first | (with_reducible first | exact HB.out | apply below_alloc | apply pw_below_drewN | apply below_drew1) | exact HB.out)) hb); clear HB; have HB := n0_; clear n0_; (try clear hb); (try clear hb2); (try clear hk); (try clear hi)) | (go_at_call 14; have bk_ := blk_new w30 (.cells #[.int .i64 kd_, .int .i64 0, .int .i64 nn_, .string (⟨#[]⟩ : ByteArray)] 31 (0, 0)); have hx_ := below_alloc HB.out (.cells #[.int .i64 kd_, .int .i64 0, .int .i64 nn_, .string (⟨#[]⟩ : ByteArray)] 31 (0, 0)); (with_reducible refine (tok_Show.calls kd_ 0 nn_ (⟨#[]⟩ : ByteArray) t269 _ ?side1 A8.out).mono ?_); (case side1 => exact GW.below hx_ HG.out); rintro e w33 ⟨rfl, hb⟩; obtain ⟨gb268, hg_⟩ : ∃ g_ : Nat, w30.heap.size = g_ := ⟨_, rfl⟩; rw [hg_] at bk_; rw [hg_]; have n0_ := Aside0.mk (blk_below bk_ hb); have n1_ := Aside0.mk (below_step hx_ hb); have n2_ := Aside0.mk (show w.heap.size ≤ gb268 from hg_ ▸ below_size HB.out); clear bk_ hx_ hb hg_ HB; have BK268 := n0_; have HB := n1_; have GE268 := n2_; clear n0_ n1_ n2_) | ((with_reducible refine gate_callee (f := 9) rfl ?_); refine goesL_ (some 46) rfl rfl Tryz.func9 (by kernel_rfl) rfl #[.string (((⟨#[32, 37, 32, 120, 10, 32]⟩ : ByteArray) ++ t269) ++ (⟨#[32, 37]⟩ : ByteArray))] rfl (by (try simp only [List.map_toArray, List.map_cons, List.map_nil]); first | done | rfl | (simp only [List.length_drop, List.length_take]; rfl)) ?_; (with_reducible refine (tok_All.calls k (((⟨#[32, 37, 32, 120, 10, 32]⟩ : ByteArray) ++ t269) ++ (⟨#[32, 37]⟩ : ByteArray)) t270 t271 t272 _ ?side1 A11.out).mono ?_); (case side1 => exact GW.below (by repeat (first | (with_reducible first | exact HB.out | apply below_alloc | apply pw_below_drewN | apply below_drew1 | refine below_set ?_ GE268.out) | exact HB.out)) HG.out); rintro e w34 ⟨v273, rfl, ho0, hb⟩; refine ⟨_, rfl, ?_⟩; have n0_ := Aside0.mk (Kd.R_lower (Kd.R_newB ho0 (g := gb268) (o := .cells #[.int .i64 kd_, .int .i64 0, .int .i64 nn_, .string (⟨#[]⟩ : ByteArray)] 31 (0, 0)) (by (with_reducible repeat (first | refine blk_drewN ?_ _ | refine blk_drew ?_ | refine blk_alloc ?_ _)); exact BK268.out)) (below_size (by repeat (first | (with_reducible first | exact HB.out | apply below_alloc | apply pw_below_drewN | apply below_drew1 | refine below_set ?_ GE268.out) | exact HB.out)))); have n1_ := Aside0.mk (blk_below (g := gb268) (o := .cells #[.int .i64 kd_, .int .i64 0, .int .i64 nn_, .string (⟨#[]⟩ : ByteArray)] 31 (0, 0)) (by (with_reducible repeat (first | refine blk_drewN ?_ _ | refine blk_drew ?_ | refine blk_alloc ?_ _)); exact BK268.out) hb); have n2_ := Aside0.mk (below_step (by repeat (first | (with_reducible first | exact HB.out | apply below_alloc | apply pw_below_drewN | apply below_drew1 | refine below_set ?_ GE268.out) | exact HB.out)) hb); clear BK268; clear HB; have HO274 := n0_; have BK268 := n1_; have HB := n2_; clear n0_ n1_ n2_; (try clear hb); (try clear hb2); (try clear hk); (try clear hi); (try clear ho0)))
            go_ret
            exact ⟨by first | rfl | (simp [errW_none, errW_some] <;> rfl) | (simp [*, errW_none, errW_some] <;> rfl), by repeat (first | (with_reducible first | exact HB.out | apply below_alloc | apply pw_below_drewN | apply below_drew1 | refine below_set ?_ GE268.out) | exact HB.out)⟩
        · rw [if_neg c10] at H
          exact absurd H (by simp)
      · rw [if_neg c9] at H
        exact absurd H (by simp)
    · rw [if_neg c7] at H
      have c7b0 : (kd_ == 1) = false := beq_eq_false_iff_ne.mpr c7
      have c7b1 : (kd_ != 1) = true := bne_iff_ne.mpr c7
      have HC35 := Aside0.mk H
      clear H
      go_enter Tryz.func6, Tryz.ntmps6
      go_upto_if 30 with (first | ((with_reducible refine gate_callee (f := 8) rfl ?_); refine goesL_ (some 13) rfl rfl Tryz.func8 (by kernel_rfl) rfl #[] rfl (by (try simp only [List.map_toArray, List.map_cons, List.map_nil]); first | done | rfl | (simp only [List.length_drop, List.length_take]; rfl)) ?_; (with_reducible refine (hornbooklaw04_awake.calls k  t267 _ ?side1 A4.out).mono ?_); (case side1 => exact GW.below (by repeat (first | (with_reducible first | exact HB.out | apply below_alloc | apply pw_below_drewN | apply below_drew1) | exact HB.out)) HG.out); rintro e w36 ⟨rfl, hb⟩; refine ⟨_, rfl, ?_⟩; have n0_ := Aside0.mk (below_step (by repeat (first | (with_reducible first | exact HB.out | apply below_alloc | apply pw_below_drewN | apply below_drew1) | exact HB.out)) hb); clear HB; have HB := n0_; clear n0_; (try clear hb); (try clear hb2); (try clear hk); (try clear hi)))
      have bk_ := blk_new w36 (.cells #[.int .i64 kd_, .int .i64 0, .int .i64 0, .string (⟨#[]⟩ : ByteArray)] 31 (0, 0))
      have hx_ := below_alloc HB.out (.cells #[.int .i64 kd_, .int .i64 0, .int .i64 0, .string (⟨#[]⟩ : ByteArray)] 31 (0, 0))
      have n2_ := below_size HB.out
      obtain ⟨gb268, hg_⟩ : ∃ g_ : Nat, w36.heap.size = g_ := ⟨_, rfl⟩
      obtain ⟨w37, hw_⟩ : ∃ W_ : World, w36.alloc (.cells #[.int .i64 kd_, .int .i64 0, .int .i64 0, .string (⟨#[]⟩ : ByteArray)] 31 (0, 0)) = W_ := ⟨_, rfl⟩
      rw [hw_] at bk_ hx_
      rw [hg_] at bk_ n2_
      rw [hw_, hg_]
      clear HB
      have BK268 := Aside0.mk bk_
      have HB := Aside0.mk hx_
      have GE268 := Aside0.mk n2_
      clear bk_ hx_ n2_ hw_ hg_
      (try simp only [Act.put, List.setIfInBounds_toArray, List.set_cons_zero, List.set_cons_succ])
      go_cut [30] (fun v30 wc => ∃ (kq : Nat) (x30_34 : Bool), v30 = .bool x30_34 ∧ Aside0 (hornbooklaw04_TokKinds.j0 kq l2 t267 kd_ x30_34 kd_ 0 0 (⟨#[]⟩ : ByteArray) = some r) ∧ Aside0 (kq ≤ k) ∧ Aside0 (wc.heap[gb268]? = some (.cells #[.int .i64 kd_, .int .i64 0, .int .i64 0, .string (⟨#[]⟩ : ByteArray)] 31 (0, 0))) ∧ Aside0 (Below w.heap.size w wc))
      case first =>
        have H := HC35.out
        clear HC35
        by_cases c39 : kd_ = 2
        · rw [if_pos c39] at H
          have c39b0 : (kd_ == 2) = true := beq_iff_eq.mpr c39
          have c39b1 : (kd_ != 2) = false := bne_eq_false_iff_eq.mpr c39
          clear c39
          (first | rw [c39b0] | (simp only [i64_w, i32_w]; rw [c39b0]) | skip)
          have H' := Aside0.mk H
          clear H
          go_wp2
          go_meet
          case rel => exact ⟨_, ((kd_ == 2)), (by first | rfl | (simp; done) | (simp [*]; done)), H', ⟨by first | omega | exact Nat.le_refl _⟩, ⟨by (with_reducible repeat (first | refine blk_drewN ?_ _ | refine blk_drew ?_ | refine blk_alloc ?_ _)); (with_reducible repeat (first | refine blk_drewN ?_ _ | refine blk_drew ?_ | refine blk_alloc ?_ _)); (with_reducible repeat (first | refine blk_drewN ?_ _ | refine blk_drew ?_ | refine blk_alloc ?_ _)); (with_reducible repeat (first | refine blk_drewN ?_ _ | refine blk_drew ?_ | refine blk_alloc ?_ _)); (with_reducible repeat (first | refine blk_drewN ?_ _ | refine blk_drew ?_ | refine blk_alloc ?_ _)); exact BK268.out⟩, ⟨by repeat (first | (with_reducible first | exact HB.out | apply below_alloc | apply pw_below_drewN | apply below_drew1 | refine below_set ?_ GE268.out) | exact HB.out)⟩⟩
        · rw [if_neg c39] at H
          have c39b0 : (kd_ == 2) = false := beq_eq_false_iff_ne.mpr c39
          have c39b1 : (kd_ != 2) = true := bne_iff_ne.mpr c39
          (first | rw [c39b0] | (simp only [i64_w, i32_w]; rw [c39b0]) | skip)
          by_cases c40 : kd_ = 4
          · rw [if_pos c40] at H
            have c40b0 : (kd_ == 4) = true := beq_iff_eq.mpr c40
            have c40b1 : (kd_ != 4) = false := bne_eq_false_iff_eq.mpr c40
            clear c40
            have H' := Aside0.mk H
            clear H
            go_wp2
            go_meet
            case rel => exact ⟨_, ((kd_ == 4)), (by first | rfl | (simp; done) | (simp [*]; done)), H', ⟨by first | omega | exact Nat.le_refl _⟩, ⟨by (with_reducible repeat (first | refine blk_drewN ?_ _ | refine blk_drew ?_ | refine blk_alloc ?_ _)); (with_reducible repeat (first | refine blk_drewN ?_ _ | refine blk_drew ?_ | refine blk_alloc ?_ _)); (with_reducible repeat (first | refine blk_drewN ?_ _ | refine blk_drew ?_ | refine blk_alloc ?_ _)); (with_reducible repeat (first | refine blk_drewN ?_ _ | refine blk_drew ?_ | refine blk_alloc ?_ _)); (with_reducible repeat (first | refine blk_drewN ?_ _ | refine blk_drew ?_ | refine blk_alloc ?_ _)); exact BK268.out⟩, ⟨by repeat (first | (with_reducible first | exact HB.out | apply below_alloc | apply pw_below_drewN | apply below_drew1 | refine below_set ?_ GE268.out) | exact HB.out)⟩⟩
          · rw [if_neg c40] at H
            have c40b0 : (kd_ == 4) = false := beq_eq_false_iff_ne.mpr c40
            have c40b1 : (kd_ != 4) = true := bne_iff_ne.mpr c40
            have H' := Aside0.mk H
            clear H
            go_wp2
            go_meet
            case rel => exact ⟨_, ((kd_ == 5)), (by first | rfl | (simp; done) | (simp [*]; done)), H', ⟨by first | omega | exact Nat.le_refl _⟩, ⟨by (with_reducible repeat (first | refine blk_drewN ?_ _ | refine blk_drew ?_ | refine blk_alloc ?_ _)); (with_reducible repeat (first | refine blk_drewN ?_ _ | refine blk_drew ?_ | refine blk_alloc ?_ _)); (with_reducible repeat (first | refine blk_drewN ?_ _ | refine blk_drew ?_ | refine blk_alloc ?_ _)); (with_reducible repeat (first | refine blk_drewN ?_ _ | refine blk_drew ?_ | refine blk_alloc ?_ _)); (with_reducible repeat (first | refine blk_drewN ?_ _ | refine blk_drew ?_ | refine blk_alloc ?_ _)); exact BK268.out⟩, ⟨by repeat (first | (with_reducible first | exact HB.out | apply below_alloc | apply pw_below_drewN | apply below_drew1 | refine below_set ?_ GE268.out) | exact HB.out)⟩⟩
      case rest =>
        clear HC35
        try clear c1
        try clear c2
        try clear p2
        try clear c3
        try clear c4
        try clear c5
        try clear c5b0
        try clear c5b1
        try clear c6
        try clear p6
        try clear c7
        try clear c7b0
        try clear c7b1
        try clear c8
        try clear c9
        try clear c9b0
        try clear c9b1
        try clear c9b2
        try clear c10
        try clear c10b0
        try clear c10b1
        try clear c10b2
        try clear c12
        try clear c13
        try clear c13b0
        try clear c13b1
        try clear c14
        try clear c39
        try clear c39b0
        try clear c39b1
        try clear c40
        try clear c40b0
        try clear c40b1
        try clear hcz17_0
        try clear hcz17_1
        try clear hcz17_2
        try clear hcz17_3
        try clear hcz20_0
        try clear hcz20_1
        try clear hcz20_2
        try clear hcz20_3
        try clear hcz27_0
        try clear hcz27_1
        try clear hcz27_2
        try clear hcz27_3
        try clear hcz32_0
        try clear hcz32_1
        try clear hcz32_2
        try clear hcz32_3
        try clear hcz38_0
        try clear hcz38_1
        try clear hcz38_2
        try clear hcz38_3
        try clear hfz17_0
        try clear hfz17_1
        try clear hfz17_2
        try clear hfz17_3
        try clear hfz20_0
        try clear hfz20_1
        try clear hfz20_2
        try clear hfz20_3
        try clear hfz27_0
        try clear hfz27_1
        try clear hfz27_2
        try clear hfz27_3
        try clear hfz32_0
        try clear hfz32_1
        try clear hfz32_2
        try clear hfz32_3
        try clear hfz38_0
        try clear hfz38_1
        try clear hfz38_2
        try clear hfz38_3
        obtain ⟨kq, x30_34, rfl, HA, HJ34, BK268, HB⟩ := hcut
        cases kq with
        | zero => exact absurd HA.out (by simp [hornbooklaw04_TokKinds.j0])
        | succ kj34 =>
          have H := HA.out
          clear HA
          simp only [hornbooklaw04_TokKinds.j0] at H
          by_cases c41 : x30_34 = true
          · subst c41
            have H1 : ((tok_Show.f kd_ 0 0 (strOfNums l2)).bind fun t279 => (if 6 + t279.size ≤ 9223372036854775807 then (if ((⟨#[32, 37, 32, 120, 10, 32]⟩ : ByteArray) ++ t279).size + 2 ≤ 9223372036854775807 then ((tok_All.f kj34 (((⟨#[32, 37, 32, 120, 10, 32]⟩ : ByteArray) ++ t279) ++ (⟨#[32, 37]⟩ : ByteArray))).bind fun bt280 => (if t267 = true then (if bt280.2.2 = 0 then ((hornbookref04_Alike.f kj34 bt280.1 (([(⟨kd_, 0, 0, strOfNums l2⟩ : S31)] : List (S31)))).bind fun t288 => (some t288)) else (some false)) else (some false))) else (none)) else (none))) = some r := by rw [if_pos rfl] at H; exact H
            clear H
            have H := H1
            clear H1
            replace H := Option.bind_eq_some_iff.mp H
            obtain ⟨t279, A420, H⟩ := H
            replace H : (if 6 + t279.size ≤ 9223372036854775807 then (if ((⟨#[32, 37, 32, 120, 10, 32]⟩ : ByteArray) ++ t279).size + 2 ≤ 9223372036854775807 then ((tok_All.f kj34 (((⟨#[32, 37, 32, 120, 10, 32]⟩ : ByteArray) ++ t279) ++ (⟨#[32, 37]⟩ : ByteArray))).bind fun bt280 => (if t267 = true then (if bt280.2.2 = 0 then ((hornbookref04_Alike.f kj34 bt280.1 (([(⟨kd_, 0, 0, strOfNums l2⟩ : S31)] : List (S31)))).bind fun t288 => (some t288)) else (some false)) else (some false))) else (none)) else (none)) = some r := H
            have A42 := Aside0.mk A420
            clear A420
            by_cases c43 : 6 + t279.size ≤ 9223372036854775807
            · rw [if_pos c43] at H
              have c43b0 := eq_true c43
              have c43b1 : decide (6 + t279.size ≤ 9223372036854775807) = true := decide_eq_true c43
              try have c43b2 : (9223372036854775807 < 6 + t279.size) = False := eq_false (Nat.not_lt.2 c43)
              by_cases c44 : ((⟨#[32, 37, 32, 120, 10, 32]⟩ : ByteArray) ++ t279).size + 2 ≤ 9223372036854775807
              · rw [if_pos c44] at H
                have c44b0 := eq_true c44
                have c44b1 : decide (((⟨#[32, 37, 32, 120, 10, 32]⟩ : ByteArray) ++ t279).size + 2 ≤ 9223372036854775807) = true := decide_eq_true c44
                try have c44b2 : (9223372036854775807 < ((⟨#[32, 37, 32, 120, 10, 32]⟩ : ByteArray) ++ t279).size + 2) = False := eq_false (Nat.not_lt.2 c44)
                try have c44b9 : (9223372036854775807 < (6 + t279.size) + 2) = False := eq_false (Nat.not_lt.2 (by have h_ := c44; (repeat rw [ByteArray.size_append] at h_); exact h_))
                replace H := Option.bind_eq_some_iff.mp H
                obtain ⟨⟨t280, t281, t282⟩, A450, H⟩ := H
                replace H : (if t267 = true then (if t282 = 0 then ((hornbookref04_Alike.f kj34 t280 (([(⟨kd_, 0, 0, strOfNums l2⟩ : S31)] : List (S31)))).bind fun t288 => (some t288)) else (some false)) else (some false)) = some r := H
                have A45 := Aside0.mk A450
                clear A450
                by_cases c46 : t267 = true
                · subst c46
                  have H1 : (if t282 = 0 then ((hornbookref04_Alike.f kj34 t280 (([(⟨kd_, 0, 0, strOfNums l2⟩ : S31)] : List (S31)))).bind fun t288 => (some t288)) else (some false)) = some r := by rw [if_pos rfl] at H; exact H
                  clear H
                  have H := H1
                  clear H1
                  by_cases c47 : t282 = 0
                  · rw [if_pos c47] at H
                    have c47b0 : (t282 == 0) = true := beq_iff_eq.mpr c47
                    have c47b1 : (t282 != 0) = false := bne_eq_false_iff_eq.mpr c47
                    clear c47
                    obtain ⟨y285, hy285⟩ : ∃ y_ : List (S31), y_ = (([(⟨kd_, 0, 0, strOfNums l2⟩ : S31)] : List (S31))) := ⟨_, rfl⟩
                    replace H : ((hornbookref04_Alike.f kj34 t280 y285).bind fun t288 => (some t288)) = some r := by first | (rw [hy285]; with_reducible exact H) | (have H2_ := (Option.bind_some _ _).symm.trans H; rw [hy285]; with_reducible exact H2_) | (have H2_ := (Option.bind_some _ _).symm.trans H; with_reducible exact H2_) | with_reducible exact H | (rw [hy285]; exact H) | exact H
                    have Ny285 := Aside0.mk hy285
                    clear hy285
                    replace H := Option.bind_eq_some_iff.mp H
                    obtain ⟨t288, A480, H⟩ := H
                    replace H : (some t288) = some r := H
                    have A48 := Aside0.mk A480
                    clear A480
                    obtain rfl := Option.some.inj H
                    have hcv49 := Kd.C_string (P := Tryz.prog) (A := A2) (c := c2) Tryz.underlying35 Tryz.underlying5 Tryz.underlying9 (Kd.C_below HR2.out HB.out)
                    have hcz50_0 : wc.cell? ⟨gb268, 0, none⟩ = some (.int .i64 kd_) := (blk_cell BK268.out 0).trans rfl
                    have hcz50_1 : wc.cell? ⟨gb268, 1, none⟩ = some (.int .i64 0) := (blk_cell BK268.out 1).trans rfl
                    have hcz50_2 : wc.cell? ⟨gb268, 2, none⟩ = some (.int .i64 0) := (blk_cell BK268.out 2).trans rfl
                    have hcz50_3 : wc.cell? ⟨gb268, 3, none⟩ = some (.string (⟨#[]⟩ : ByteArray)) := (blk_cell BK268.out 3).trans rfl
                    have hfz50_0 := blk_frozen BK268.out 0
                    have hfz50_1 := blk_frozen BK268.out 1
                    have hfz50_2 := blk_frozen BK268.out 2
                    have hfz50_3 := blk_frozen BK268.out 3
                    go_wp2_with (first | ((with_reducible refine gate_callee (f := 14) rfl ?_); refine goesL_ (some 43) rfl rfl Tryz.func14 (by kernel_rfl) rfl #[.agg #[.int .i64 kd_, .int .i64 0, .int .i64 0, .string (strOfNums l2)]] rfl (by (try simp only [List.map_toArray, List.map_cons, List.map_nil]); first | done | rfl | (simp only [List.length_drop, List.length_take]; rfl)) ?_; (with_reducible refine (tok_Show.calls kd_ 0 0 (strOfNums l2) t279 _ ?side1 A42.out).mono ?_); (case side1 => exact GW.below (by repeat (first | (with_reducible first | exact HB.out | apply below_alloc | apply pw_below_drewN | apply below_drew1 | refine below_set ?_ GE268.out) | exact HB.out)) HG.out); rintro e w51 ⟨rfl, hb⟩; refine ⟨_, rfl, ?_⟩; have n0_ := Aside0.mk (blk_below (g := gb268) (o := .cells #[.int .i64 kd_, .int .i64 0, .int .i64 0, .string (strOfNums l2)] 31 (0, 0)) (by (with_reducible repeat (first | refine blk_drewN ?_ _ | refine blk_drew ?_ | refine blk_alloc ?_ _)); refine blk_put (cs := #[.int .i64 kd_, .int .i64 0, .int .i64 0, .string (⟨#[]⟩ : ByteArray)]) ?_ 3 _ rfl; (with_reducible repeat (first | refine blk_drewN ?_ _ | refine blk_drew ?_ | refine blk_alloc ?_ _)); exact BK268.out) hb); have n1_ := Aside0.mk (below_step (by repeat (first | (with_reducible first | exact HB.out | apply below_alloc | apply pw_below_drewN | apply below_drew1 | refine below_set ?_ GE268.out) | exact HB.out)) hb); clear BK268; clear HB; have BK268 := n0_; have HB := n1_; clear n0_ n1_; (try clear hb); (try clear hb2); (try clear hk); (try clear hi)) | ((with_reducible refine gate_callee (f := 9) rfl ?_); refine goesL_ (some 46) rfl rfl Tryz.func9 (by kernel_rfl) rfl #[.string (((⟨#[32, 37, 32, 120, 10, 32]⟩ : ByteArray) ++ t279) ++ (⟨#[32, 37]⟩ : ByteArray))] rfl (by (try simp only [List.map_toArray, List.map_cons, List.map_nil]); first | done | rfl | (simp only [List.length_drop, List.length_take]; rfl)) ?_; (with_reducible refine (tok_All.calls kj34 (((⟨#[32, 37, 32, 120, 10, 32]⟩ : ByteArray) ++ t279) ++ (⟨#[32, 37]⟩ : ByteArray)) t280 t281 t282 _ ?side1 A45.out).mono ?_); (case side1 => exact GW.below (by repeat (first | (with_reducible first | exact HB.out | apply below_alloc | apply pw_below_drewN | apply below_drew1 | refine below_set ?_ GE268.out) | exact HB.out)) HG.out); rintro e w52 ⟨v283, rfl, ho0, hb⟩; refine ⟨_, rfl, ?_⟩; have n0_ := Aside0.mk (Kd.R_lower (Kd.R_newB ho0 (g := gb268) (o := .cells #[.int .i64 kd_, .int .i64 0, .int .i64 0, .string (strOfNums l2)] 31 (0, 0)) (by (with_reducible repeat (first | refine blk_drewN ?_ _ | refine blk_drew ?_ | refine blk_alloc ?_ _)); exact BK268.out)) (below_size (by repeat (first | (with_reducible first | exact HB.out | apply below_alloc | apply pw_below_drewN | apply below_drew1 | refine below_set ?_ GE268.out) | exact HB.out)))); have n1_ := Aside0.mk (blk_below (g := gb268) (o := .cells #[.int .i64 kd_, .int .i64 0, .int .i64 0, .string (strOfNums l2)] 31 (0, 0)) (by (with_reducible repeat (first | refine blk_drewN ?_ _ | refine blk_drew ?_ | refine blk_alloc ?_ _)); exact BK268.out) hb); have n2_ := Aside0.mk (below_step (by repeat (first | (with_reducible first | exact HB.out | apply below_alloc | apply pw_below_drewN | apply below_drew1 | refine below_set ?_ GE268.out) | exact HB.out)) hb); clear BK268; clear HB; have HO284 := n0_; have BK268 := n1_; have HB := n2_; clear n0_ n1_ n2_; (try clear hb); (try clear hb2); (try clear hk); (try clear hi); (try clear ho0); have hcz53_0 : w52.cell? ⟨gb268, 0, none⟩ = some (.int .i64 kd_) := (blk_cell BK268.out 0).trans rfl; have hcz53_1 : w52.cell? ⟨gb268, 1, none⟩ = some (.int .i64 0) := (blk_cell BK268.out 1).trans rfl; have hcz53_2 : w52.cell? ⟨gb268, 2, none⟩ = some (.int .i64 0) := (blk_cell BK268.out 2).trans rfl; have hcz53_3 : w52.cell? ⟨gb268, 3, none⟩ = some (.string (strOfNums l2)) := (blk_cell BK268.out 3).trans rfl; have hfz53_0 := blk_frozen BK268.out 0; have hfz53_1 := blk_frozen BK268.out 1; have hfz53_2 := blk_frozen BK268.out 2; have hfz53_3 := blk_frozen BK268.out 3) | ((with_reducible refine gate_dst (N := 58) rfl ?_); (try (refine gate_guard (by rfl) ?_; dsimp only)); refine Kd.R_lit k31 _ 31 ?hg (N := 58) ?hd (xs := ([(⟨kd_, 0, 0, strOfNums l2⟩ : S31)] : List (S31))) (inner := [.int .i64 kd_, .int .i64 0, .int .i64 0, .string (strOfNums l2)]) (ok := fun _ => True) (okp := fun _ => True) ?hr ?hp (fun _ hk => hk) trivial (Below.refl _ _) (Nat.le_refl _) (by simp) ?_; (case hd => rfl); (case hg => rfl); (case hr => first | (go_simp; done) | (go_simp; rfl)); (case hp => exact (Reps.c4 (show Kd.M k31 _ _ _ (⟨kd_, 0, 0, strOfNums l2⟩ : S31) [.int .i64 kd_, .int .i64 0, .int .i64 0, .string (strOfNums l2)] from (k31_mkM _ _ _ (⟨kd_, 0, 0, strOfNums l2⟩ : S31) )) (Reps.none _ _))); intro v286 w54 ho55 hb hg_ hnew_; clear hg_ hnew_; (first | rw [← Ny285.out] at ho55 | (simp only [Int.reduceToNat] at ho55; rw [← Ny285.out] at ho55)); have n0_ := Aside0.mk (Kd.R_elder' (by (with_reducible repeat (first | apply Kd.R_alloc | apply Kd.R_drewN | apply Kd.R_drew)); exact HO284.out) (Kd.R_base ho55) hb); have n1_ := Aside0.mk (Kd.R_lower (Kd.R_newB (Kd.R_new' ho55 (Kd.R_lt (by (with_reducible repeat (first | apply Kd.R_alloc | apply Kd.R_drewN | apply Kd.R_drew)); exact HO284.out))) (g := gb268) (o := .cells #[.int .i64 kd_, .int .i64 0, .int .i64 0, .string (strOfNums l2)] 31 (0, 0)) (by (with_reducible repeat (first | refine blk_drewN ?_ _ | refine blk_drew ?_ | refine blk_alloc ?_ _)); exact BK268.out)) (below_size (by repeat (first | (with_reducible first | exact HB.out | apply below_alloc | apply pw_below_drewN | apply below_drew1 | refine below_set ?_ GE268.out) | exact HB.out)))); have n2_ := Aside0.mk (blk_below (g := gb268) (o := .cells #[.int .i64 kd_, .int .i64 0, .int .i64 0, .string (strOfNums l2)] 31 (0, 0)) (by (with_reducible repeat (first | refine blk_drewN ?_ _ | refine blk_drew ?_ | refine blk_alloc ?_ _)); exact BK268.out) hb); have n3_ := Aside0.mk (below_step (by repeat (first | (with_reducible first | exact HB.out | apply below_alloc | apply pw_below_drewN | apply below_drew1 | refine below_set ?_ GE268.out) | exact HB.out)) hb); clear HO284; clear BK268; clear HB; have HO284 := n0_; have HO287 := n1_; have BK268 := n2_; have HB := n3_; clear n0_ n1_ n2_ n3_; clear hb ho55; obtain ⟨Ao56, co56, eo56⟩ := Kd.R_slice HO284.out; subst eo56; obtain ⟨Ao57, co57, eo57⟩ := Kd.R_slice HO287.out; subst eo57) | (go_at_call 11; (with_reducible refine (hornbookref04_Alike.calls kj34 _ _ t280 _ _ y285 t288 _ ?side1 ?side2 ?side3 ?side4 A48.out).mono ?_); (case side1 => repeat (first | exact (Kd.R_reads' HO284.out).2.2 | (with_reducible refine Kd.C_alloc ?_ _) | (with_reducible refine Kd.C_drewN ?_ _) | (with_reducible refine Kd.C_drew ?_))); (case side2 => exact (Kd.R_reads' HO284.out).2.1); (case side3 => repeat (first | exact (Kd.R_reads' HO287.out).2.2 | (with_reducible refine Kd.C_alloc ?_ _) | (with_reducible refine Kd.C_drewN ?_ _) | (with_reducible refine Kd.C_drew ?_))); (case side4 => exact (Kd.R_reads' HO287.out).2.1); rintro e w' ⟨rfl, ⟨nd, rfl⟩⟩))
                    go_ret
                    exact ⟨by first | rfl | (simp [errW_none, errW_some] <;> rfl) | (simp [*, errW_none, errW_some] <;> rfl), by repeat (first | (with_reducible first | exact HB.out | apply below_alloc | apply pw_below_drewN | apply below_drew1 | refine below_set ?_ GE268.out) | exact HB.out)⟩
                  · rw [if_neg c47] at H
                    have c47b0 : (t282 == 0) = false := beq_eq_false_iff_ne.mpr c47
                    have c47b1 : (t282 != 0) = true := bne_iff_ne.mpr c47
                    obtain rfl := Option.some.inj H
                    have hcv58 := Kd.C_string (P := Tryz.prog) (A := A2) (c := c2) Tryz.underlying35 Tryz.underlying5 Tryz.underlying9 (Kd.C_below HR2.out HB.out)
                    have hcz59_0 : wc.cell? ⟨gb268, 0, none⟩ = some (.int .i64 kd_) := (blk_cell BK268.out 0).trans rfl
                    have hcz59_1 : wc.cell? ⟨gb268, 1, none⟩ = some (.int .i64 0) := (blk_cell BK268.out 1).trans rfl
                    have hcz59_2 : wc.cell? ⟨gb268, 2, none⟩ = some (.int .i64 0) := (blk_cell BK268.out 2).trans rfl
                    have hcz59_3 : wc.cell? ⟨gb268, 3, none⟩ = some (.string (⟨#[]⟩ : ByteArray)) := (blk_cell BK268.out 3).trans rfl
                    have hfz59_0 := blk_frozen BK268.out 0
                    have hfz59_1 := blk_frozen BK268.out 1
                    have hfz59_2 := blk_frozen BK268.out 2
                    have hfz59_3 := blk_frozen BK268.out 3
                    go_wp2_with (first | ((with_reducible refine gate_callee (f := 14) rfl ?_); refine goesL_ (some 43) rfl rfl Tryz.func14 (by kernel_rfl) rfl #[.agg #[.int .i64 kd_, .int .i64 0, .int .i64 0, .string (strOfNums l2)]] rfl (by (try simp only [List.map_toArray, List.map_cons, List.map_nil]); first | done | rfl | (simp only [List.length_drop, List.length_take]; rfl)) ?_; (with_reducible refine (tok_Show.calls kd_ 0 0 (strOfNums l2) t279 _ ?side1 A42.out).mono ?_); (case side1 => exact GW.below (by repeat (first | (with_reducible first | exact HB.out | apply below_alloc | apply pw_below_drewN | apply below_drew1 | refine below_set ?_ GE268.out) | exact HB.out)) HG.out); rintro e w60 ⟨rfl, hb⟩; refine ⟨_, rfl, ?_⟩; have n0_ := Aside0.mk (blk_below (g := gb268) (o := .cells #[.int .i64 kd_, .int .i64 0, .int .i64 0, .string (strOfNums l2)] 31 (0, 0)) (by (with_reducible repeat (first | refine blk_drewN ?_ _ | refine blk_drew ?_ | refine blk_alloc ?_ _)); refine blk_put (cs := #[.int .i64 kd_, .int .i64 0, .int .i64 0, .string (⟨#[]⟩ : ByteArray)]) ?_ 3 _ rfl; (with_reducible repeat (first | refine blk_drewN ?_ _ | refine blk_drew ?_ | refine blk_alloc ?_ _)); exact BK268.out) hb); have n1_ := Aside0.mk (below_step (by repeat (first | (with_reducible first | exact HB.out | apply below_alloc | apply pw_below_drewN | apply below_drew1 | refine below_set ?_ GE268.out) | exact HB.out)) hb); clear BK268; clear HB; have BK268 := n0_; have HB := n1_; clear n0_ n1_; (try clear hb); (try clear hb2); (try clear hk); (try clear hi)) | ((with_reducible refine gate_callee (f := 9) rfl ?_); refine goesL_ (some 46) rfl rfl Tryz.func9 (by kernel_rfl) rfl #[.string (((⟨#[32, 37, 32, 120, 10, 32]⟩ : ByteArray) ++ t279) ++ (⟨#[32, 37]⟩ : ByteArray))] rfl (by (try simp only [List.map_toArray, List.map_cons, List.map_nil]); first | done | rfl | (simp only [List.length_drop, List.length_take]; rfl)) ?_; (with_reducible refine (tok_All.calls kj34 (((⟨#[32, 37, 32, 120, 10, 32]⟩ : ByteArray) ++ t279) ++ (⟨#[32, 37]⟩ : ByteArray)) t280 t281 t282 _ ?side1 A45.out).mono ?_); (case side1 => exact GW.below (by repeat (first | (with_reducible first | exact HB.out | apply below_alloc | apply pw_below_drewN | apply below_drew1 | refine below_set ?_ GE268.out) | exact HB.out)) HG.out); rintro e w61 ⟨v283, rfl, ho0, hb⟩; refine ⟨_, rfl, ?_⟩; have n0_ := Aside0.mk (Kd.R_lower (Kd.R_newB ho0 (g := gb268) (o := .cells #[.int .i64 kd_, .int .i64 0, .int .i64 0, .string (strOfNums l2)] 31 (0, 0)) (by (with_reducible repeat (first | refine blk_drewN ?_ _ | refine blk_drew ?_ | refine blk_alloc ?_ _)); exact BK268.out)) (below_size (by repeat (first | (with_reducible first | exact HB.out | apply below_alloc | apply pw_below_drewN | apply below_drew1 | refine below_set ?_ GE268.out) | exact HB.out)))); have n1_ := Aside0.mk (blk_below (g := gb268) (o := .cells #[.int .i64 kd_, .int .i64 0, .int .i64 0, .string (strOfNums l2)] 31 (0, 0)) (by (with_reducible repeat (first | refine blk_drewN ?_ _ | refine blk_drew ?_ | refine blk_alloc ?_ _)); exact BK268.out) hb); have n2_ := Aside0.mk (below_step (by repeat (first | (with_reducible first | exact HB.out | apply below_alloc | apply pw_below_drewN | apply below_drew1 | refine below_set ?_ GE268.out) | exact HB.out)) hb); clear BK268; clear HB; have HO284 := n0_; have BK268 := n1_; have HB := n2_; clear n0_ n1_ n2_; (try clear hb); (try clear hb2); (try clear hk); (try clear hi); (try clear ho0)))
                    go_ret
                    exact ⟨by first | rfl | (simp [errW_none, errW_some] <;> rfl) | (simp [*, errW_none, errW_some] <;> rfl), by repeat (first | (with_reducible first | exact HB.out | apply below_alloc | apply pw_below_drewN | apply below_drew1 | refine below_set ?_ GE268.out) | exact HB.out)⟩
                · replace c46 := Bool.eq_false_iff.mpr c46
                  subst c46
                  have H1 : (some false) = some r := by rw [if_neg (show ¬ (false = true) by decide)] at H; exact H
                  clear H
                  have H := H1
                  clear H1
                  obtain rfl := Option.some.inj H
                  have hcv62 := Kd.C_string (P := Tryz.prog) (A := A2) (c := c2) Tryz.underlying35 Tryz.underlying5 Tryz.underlying9 (Kd.C_below HR2.out HB.out)
                  have hcz63_0 : wc.cell? ⟨gb268, 0, none⟩ = some (.int .i64 kd_) := (blk_cell BK268.out 0).trans rfl
                  have hcz63_1 : wc.cell? ⟨gb268, 1, none⟩ = some (.int .i64 0) := (blk_cell BK268.out 1).trans rfl
                  have hcz63_2 : wc.cell? ⟨gb268, 2, none⟩ = some (.int .i64 0) := (blk_cell BK268.out 2).trans rfl
                  have hcz63_3 : wc.cell? ⟨gb268, 3, none⟩ = some (.string (⟨#[]⟩ : ByteArray)) := (blk_cell BK268.out 3).trans rfl
                  have hfz63_0 := blk_frozen BK268.out 0
                  have hfz63_1 := blk_frozen BK268.out 1
                  have hfz63_2 := blk_frozen BK268.out 2
                  have hfz63_3 := blk_frozen BK268.out 3
                  go_wp2_with (first | ((with_reducible refine gate_callee (f := 14) rfl ?_); refine goesL_ (some 43) rfl rfl Tryz.func14 (by kernel_rfl) rfl #[.agg #[.int .i64 kd_, .int .i64 0, .int .i64 0, .string (strOfNums l2)]] rfl (by (try simp only [List.map_toArray, List.map_cons, List.map_nil]); first | done | rfl | (simp only [List.length_drop, List.length_take]; rfl)) ?_; (with_reducible refine (tok_Show.calls kd_ 0 0 (strOfNums l2) t279 _ ?side1 A42.out).mono ?_); (case side1 => exact GW.below (by repeat (first | (with_reducible first | exact HB.out | apply below_alloc | apply pw_below_drewN | apply below_drew1 | refine below_set ?_ GE268.out) | exact HB.out)) HG.out); rintro e w64 ⟨rfl, hb⟩; refine ⟨_, rfl, ?_⟩; have n0_ := Aside0.mk (blk_below (g := gb268) (o := .cells #[.int .i64 kd_, .int .i64 0, .int .i64 0, .string (strOfNums l2)] 31 (0, 0)) (by (with_reducible repeat (first | refine blk_drewN ?_ _ | refine blk_drew ?_ | refine blk_alloc ?_ _)); refine blk_put (cs := #[.int .i64 kd_, .int .i64 0, .int .i64 0, .string (⟨#[]⟩ : ByteArray)]) ?_ 3 _ rfl; (with_reducible repeat (first | refine blk_drewN ?_ _ | refine blk_drew ?_ | refine blk_alloc ?_ _)); exact BK268.out) hb); have n1_ := Aside0.mk (below_step (by repeat (first | (with_reducible first | exact HB.out | apply below_alloc | apply pw_below_drewN | apply below_drew1 | refine below_set ?_ GE268.out) | exact HB.out)) hb); clear BK268; clear HB; have BK268 := n0_; have HB := n1_; clear n0_ n1_; (try clear hb); (try clear hb2); (try clear hk); (try clear hi)) | ((with_reducible refine gate_callee (f := 9) rfl ?_); refine goesL_ (some 46) rfl rfl Tryz.func9 (by kernel_rfl) rfl #[.string (((⟨#[32, 37, 32, 120, 10, 32]⟩ : ByteArray) ++ t279) ++ (⟨#[32, 37]⟩ : ByteArray))] rfl (by (try simp only [List.map_toArray, List.map_cons, List.map_nil]); first | done | rfl | (simp only [List.length_drop, List.length_take]; rfl)) ?_; (with_reducible refine (tok_All.calls kj34 (((⟨#[32, 37, 32, 120, 10, 32]⟩ : ByteArray) ++ t279) ++ (⟨#[32, 37]⟩ : ByteArray)) t280 t281 t282 _ ?side1 A45.out).mono ?_); (case side1 => exact GW.below (by repeat (first | (with_reducible first | exact HB.out | apply below_alloc | apply pw_below_drewN | apply below_drew1 | refine below_set ?_ GE268.out) | exact HB.out)) HG.out); rintro e w65 ⟨v283, rfl, ho0, hb⟩; refine ⟨_, rfl, ?_⟩; have n0_ := Aside0.mk (Kd.R_lower (Kd.R_newB ho0 (g := gb268) (o := .cells #[.int .i64 kd_, .int .i64 0, .int .i64 0, .string (strOfNums l2)] 31 (0, 0)) (by (with_reducible repeat (first | refine blk_drewN ?_ _ | refine blk_drew ?_ | refine blk_alloc ?_ _)); exact BK268.out)) (below_size (by repeat (first | (with_reducible first | exact HB.out | apply below_alloc | apply pw_below_drewN | apply below_drew1 | refine below_set ?_ GE268.out) | exact HB.out)))); have n1_ := Aside0.mk (blk_below (g := gb268) (o := .cells #[.int .i64 kd_, .int .i64 0, .int .i64 0, .string (strOfNums l2)] 31 (0, 0)) (by (with_reducible repeat (first | refine blk_drewN ?_ _ | refine blk_drew ?_ | refine blk_alloc ?_ _)); exact BK268.out) hb); have n2_ := Aside0.mk (below_step (by repeat (first | (with_reducible first | exact HB.out | apply below_alloc | apply pw_below_drewN | apply below_drew1 | refine below_set ?_ GE268.out) | exact HB.out)) hb); clear BK268; clear HB; have HO284 := n0_; have BK268 := n1_; have HB := n2_; clear n0_ n1_ n2_; (try clear hb); (try clear hb2); (try clear hk); (try clear hi); (try clear ho0)))
                  go_ret
                  exact ⟨by first | rfl | (simp [errW_none, errW_some] <;> rfl) | (simp [*, errW_none, errW_some] <;> rfl), by repeat (first | (with_reducible first | exact HB.out | apply below_alloc | apply pw_below_drewN | apply below_drew1 | refine below_set ?_ GE268.out) | exact HB.out)⟩
              · rw [if_neg c44] at H
                exact absurd H (by simp)
            · rw [if_neg c43] at H
              exact absurd H (by simp)
          · replace c41 := Bool.eq_false_iff.mpr c41
            subst c41
            have H1 : (if kd_ = 3 then (hornbooklaw04_TokKinds.j1 kj34 t267 (kd_ == 3) kd_ 0 0 (⟨#[]⟩ : ByteArray)) else (hornbooklaw04_TokKinds.j1 kj34 t267 (kd_ == 0) kd_ 0 0 (⟨#[]⟩ : ByteArray))) = some r := by rw [if_neg (show ¬ (false = true) by decide)] at H; exact H
            clear H
            have H := H1
            clear H1
            have HC66 := Aside0.mk H
            clear H
            go_upto_if 37 with (fail)
            go_cut [37] (fun v37 wc => ∃ (kq : Nat) (x37_65 : Bool), v37 = .bool x37_65 ∧ Aside0 (hornbooklaw04_TokKinds.j1 kq t267 x37_65 kd_ 0 0 (⟨#[]⟩ : ByteArray) = some r) ∧ Aside0 (kq ≤ kj34) ∧ Aside0 (wc.heap[gb268]? = some (.cells #[.int .i64 kd_, .int .i64 0, .int .i64 0, .string (⟨#[]⟩ : ByteArray)] 31 (0, 0))) ∧ Aside0 (Below w.heap.size w wc))
            case first =>
              have H := HC66.out
              clear HC66
              by_cases c67 : kd_ = 3
              · rw [if_pos c67] at H
                have c67b0 : (kd_ == 3) = true := beq_iff_eq.mpr c67
                have c67b1 : (kd_ != 3) = false := bne_eq_false_iff_eq.mpr c67
                clear c67
                (first | rw [c67b0] | (simp only [i64_w, i32_w]; rw [c67b0]) | skip)
                have H' := Aside0.mk H
                clear H
                go_wp2
                go_meet
                case rel => exact ⟨_, ((kd_ == 3)), (by first | rfl | (simp; done) | (simp [*]; done)), H', ⟨by have := HJ34.out; first | omega | exact Nat.le_refl _⟩, ⟨by (with_reducible repeat (first | refine blk_drewN ?_ _ | refine blk_drew ?_ | refine blk_alloc ?_ _)); exact BK268.out⟩, ⟨by repeat (first | (with_reducible first | exact HB.out | apply below_alloc | apply pw_below_drewN | apply below_drew1 | refine below_set ?_ GE268.out) | exact HB.out)⟩⟩
              · rw [if_neg c67] at H
                have c67b0 : (kd_ == 3) = false := beq_eq_false_iff_ne.mpr c67
                have c67b1 : (kd_ != 3) = true := bne_iff_ne.mpr c67
                (first | rw [c67b0] | (simp only [i64_w, i32_w]; rw [c67b0]) | skip)
                have H' := Aside0.mk H
                clear H
                go_wp2
                go_meet
                case rel => exact ⟨_, ((kd_ == 0)), (by first | rfl | (simp; done) | (simp [*]; done)), H', ⟨by have := HJ34.out; first | omega | exact Nat.le_refl _⟩, ⟨by (with_reducible repeat (first | refine blk_drewN ?_ _ | refine blk_drew ?_ | refine blk_alloc ?_ _)); exact BK268.out⟩, ⟨by repeat (first | (with_reducible first | exact HB.out | apply below_alloc | apply pw_below_drewN | apply below_drew1 | refine below_set ?_ GE268.out) | exact HB.out)⟩⟩
            case rest =>
              clear HC66
              try clear c1
              try clear c2
              try clear p2
              try clear c3
              try clear c4
              try clear hcv4
              try clear c5
              try clear c5b0
              try clear c5b1
              try clear hcv5
              try clear c6
              try clear p6
              try clear hcv6
              try clear c7
              try clear c7b0
              try clear c7b1
              try clear c8
              try clear c9
              try clear c9b0
              try clear c9b1
              try clear c9b2
              try clear c10
              try clear c10b0
              try clear c10b1
              try clear c10b2
              try clear c12
              try clear c13
              try clear c13b0
              try clear c13b1
              try clear c14
              try clear c39
              try clear c39b0
              try clear c39b1
              try clear c40
              try clear c40b0
              try clear c40b1
              try clear c41
              try clear c43
              try clear c43b0
              try clear c43b1
              try clear c43b2
              try clear c44
              try clear c44b0
              try clear c44b1
              try clear c44b2
              try clear c46
              try clear c47
              try clear c47b0
              try clear c47b1
              try clear hcv49
              try clear hcv58
              try clear hcv62
              try clear p64
              try clear c67
              try clear c67b0
              try clear c67b1
              try clear hcz17_0
              try clear hcz17_1
              try clear hcz17_2
              try clear hcz17_3
              try clear hcz20_0
              try clear hcz20_1
              try clear hcz20_2
              try clear hcz20_3
              try clear hcz27_0
              try clear hcz27_1
              try clear hcz27_2
              try clear hcz27_3
              try clear hcz32_0
              try clear hcz32_1
              try clear hcz32_2
              try clear hcz32_3
              try clear hcz38_0
              try clear hcz38_1
              try clear hcz38_2
              try clear hcz38_3
              try clear hcz50_0
              try clear hcz50_1
              try clear hcz50_2
              try clear hcz50_3
              try clear hcz53_0
              try clear hcz53_1
              try clear hcz53_2
              try clear hcz53_3
              try clear hcz59_0
              try clear hcz59_1
              try clear hcz59_2
              try clear hcz59_3
              try clear hcz63_0
              try clear hcz63_1
              try clear hcz63_2
              try clear hcz63_3
              try clear hfz17_0
              try clear hfz17_1
              try clear hfz17_2
              try clear hfz17_3
              try clear hfz20_0
              try clear hfz20_1
              try clear hfz20_2
              try clear hfz20_3
              try clear hfz27_0
              try clear hfz27_1
              try clear hfz27_2
              try clear hfz27_3
              try clear hfz32_0
              try clear hfz32_1
              try clear hfz32_2
              try clear hfz32_3
              try clear hfz38_0
              try clear hfz38_1
              try clear hfz38_2
              try clear hfz38_3
              try clear hfz50_0
              try clear hfz50_1
              try clear hfz50_2
              try clear hfz50_3
              try clear hfz53_0
              try clear hfz53_1
              try clear hfz53_2
              try clear hfz53_3
              try clear hfz59_0
              try clear hfz59_1
              try clear hfz59_2
              try clear hfz59_3
              try clear hfz63_0
              try clear hfz63_1
              try clear hfz63_2
              try clear hfz63_3
              try clear p2
              try clear p6
              obtain ⟨kq, x37_65, rfl, HA, HJ65, BK268, HB⟩ := hcut
              cases kq with
              | zero => exact absurd HA.out (by simp [hornbooklaw04_TokKinds.j1])
              | succ kj65 =>
                have H := HA.out
                clear HA
                simp only [hornbooklaw04_TokKinds.j1] at H
                by_cases c68 : x37_65 = true
                · subst c68
                  have H1 : (some t267) = some r := by rw [if_pos rfl] at H; exact H
                  clear H
                  have H := H1
                  clear H1
                  obtain rfl := Option.some.inj H
                  go_wp2
                  go_ret
                  exact ⟨by first | rfl | (simp [errW_none, errW_some] <;> rfl) | (simp [*, errW_none, errW_some] <;> rfl), by repeat (first | (with_reducible first | exact HB.out | apply below_alloc | apply pw_below_drewN | apply below_drew1 | refine below_set ?_ GE268.out) | exact HB.out)⟩
                · replace c68 := Bool.eq_false_iff.mpr c68
                  subst c68
                  have H1 : ((tok_Show.f kd_ 0 0 (⟨#[]⟩ : ByteArray)).bind fun t289 => (if 6 + t289.size ≤ 9223372036854775807 then (if ((⟨#[32, 37, 32, 120, 10, 32]⟩ : ByteArray) ++ t289).size + 2 ≤ 9223372036854775807 then ((tok_All.f kj65 (((⟨#[32, 37, 32, 120, 10, 32]⟩ : ByteArray) ++ t289) ++ (⟨#[32, 37]⟩ : ByteArray))).bind fun bt290 => (if t267 = true then (if bt290.2.2 = 0 then ((hornbookref04_Alike.f kj65 bt290.1 (([(⟨kd_, 0, 0, (⟨#[]⟩ : ByteArray)⟩ : S31)] : List (S31)))).bind fun t298 => (some t298)) else (some false)) else (some false))) else (none)) else (none))) = some r := by rw [if_neg (show ¬ (false = true) by decide)] at H; exact H
                  clear H
                  have H := H1
                  clear H1
                  replace H := Option.bind_eq_some_iff.mp H
                  obtain ⟨t289, A690, H⟩ := H
                  replace H : (if 6 + t289.size ≤ 9223372036854775807 then (if ((⟨#[32, 37, 32, 120, 10, 32]⟩ : ByteArray) ++ t289).size + 2 ≤ 9223372036854775807 then ((tok_All.f kj65 (((⟨#[32, 37, 32, 120, 10, 32]⟩ : ByteArray) ++ t289) ++ (⟨#[32, 37]⟩ : ByteArray))).bind fun bt290 => (if t267 = true then (if bt290.2.2 = 0 then ((hornbookref04_Alike.f kj65 bt290.1 (([(⟨kd_, 0, 0, (⟨#[]⟩ : ByteArray)⟩ : S31)] : List (S31)))).bind fun t298 => (some t298)) else (some false)) else (some false))) else (none)) else (none)) = some r := H
                  have A69 := Aside0.mk A690
                  clear A690
                  by_cases c70 : 6 + t289.size ≤ 9223372036854775807
                  · rw [if_pos c70] at H
                    have c70b0 := eq_true c70
                    have c70b1 : decide (6 + t289.size ≤ 9223372036854775807) = true := decide_eq_true c70
                    try have c70b2 : (9223372036854775807 < 6 + t289.size) = False := eq_false (Nat.not_lt.2 c70)
                    by_cases c71 : ((⟨#[32, 37, 32, 120, 10, 32]⟩ : ByteArray) ++ t289).size + 2 ≤ 9223372036854775807
                    · rw [if_pos c71] at H
                      have c71b0 := eq_true c71
                      have c71b1 : decide (((⟨#[32, 37, 32, 120, 10, 32]⟩ : ByteArray) ++ t289).size + 2 ≤ 9223372036854775807) = true := decide_eq_true c71
                      try have c71b2 : (9223372036854775807 < ((⟨#[32, 37, 32, 120, 10, 32]⟩ : ByteArray) ++ t289).size + 2) = False := eq_false (Nat.not_lt.2 c71)
                      try have c71b9 : (9223372036854775807 < (6 + t289.size) + 2) = False := eq_false (Nat.not_lt.2 (by have h_ := c71; (repeat rw [ByteArray.size_append] at h_); exact h_))
                      replace H := Option.bind_eq_some_iff.mp H
                      obtain ⟨⟨t290, t291, t292⟩, A720, H⟩ := H
                      replace H : (if t267 = true then (if t292 = 0 then ((hornbookref04_Alike.f kj65 t290 (([(⟨kd_, 0, 0, (⟨#[]⟩ : ByteArray)⟩ : S31)] : List (S31)))).bind fun t298 => (some t298)) else (some false)) else (some false)) = some r := H
                      have A72 := Aside0.mk A720
                      clear A720
                      by_cases c73 : t267 = true
                      · subst c73
                        have H1 : (if t292 = 0 then ((hornbookref04_Alike.f kj65 t290 (([(⟨kd_, 0, 0, (⟨#[]⟩ : ByteArray)⟩ : S31)] : List (S31)))).bind fun t298 => (some t298)) else (some false)) = some r := by rw [if_pos rfl] at H; exact H
                        clear H
                        have H := H1
                        clear H1
                        by_cases c74 : t292 = 0
                        · rw [if_pos c74] at H
                          have c74b0 : (t292 == 0) = true := beq_iff_eq.mpr c74
                          have c74b1 : (t292 != 0) = false := bne_eq_false_iff_eq.mpr c74
                          clear c74
                          obtain ⟨y295, hy295⟩ : ∃ y_ : List (S31), y_ = (([(⟨kd_, 0, 0, (⟨#[]⟩ : ByteArray)⟩ : S31)] : List (S31))) := ⟨_, rfl⟩
                          replace H : ((hornbookref04_Alike.f kj65 t290 y295).bind fun t298 => (some t298)) = some r := by first | (rw [hy295]; with_reducible exact H) | (have H2_ := (Option.bind_some _ _).symm.trans H; rw [hy295]; with_reducible exact H2_) | (have H2_ := (Option.bind_some _ _).symm.trans H; with_reducible exact H2_) | with_reducible exact H | (rw [hy295]; exact H) | exact H
                          have Ny295 := Aside0.mk hy295
                          clear hy295
                          replace H := Option.bind_eq_some_iff.mp H
                          obtain ⟨t298, A750, H⟩ := H
                          replace H : (some t298) = some r := H
                          have A75 := Aside0.mk A750
                          clear A750
                          obtain rfl := Option.some.inj H
                          have hcz76_0 : wc.cell? ⟨gb268, 0, none⟩ = some (.int .i64 kd_) := (blk_cell BK268.out 0).trans rfl
                          have hcz76_1 : wc.cell? ⟨gb268, 1, none⟩ = some (.int .i64 0) := (blk_cell BK268.out 1).trans rfl
                          have hcz76_2 : wc.cell? ⟨gb268, 2, none⟩ = some (.int .i64 0) := (blk_cell BK268.out 2).trans rfl
                          have hcz76_3 : wc.cell? ⟨gb268, 3, none⟩ = some (.string (⟨#[]⟩ : ByteArray)) := (blk_cell BK268.out 3).trans rfl
                          have hfz76_0 := blk_frozen BK268.out 0
                          have hfz76_1 := blk_frozen BK268.out 1
                          have hfz76_2 := blk_frozen BK268.out 2
                          have hfz76_3 := blk_frozen BK268.out 3
                          go_wp2_with (first | ((with_reducible refine gate_callee (f := 14) rfl ?_); refine goesL_ (some 43) rfl rfl Tryz.func14 (by kernel_rfl) rfl #[.agg #[.int .i64 kd_, .int .i64 0, .int .i64 0, .string (⟨#[]⟩ : ByteArray)]] rfl (by (try simp only [List.map_toArray, List.map_cons, List.map_nil]); first | done | rfl | (simp only [List.length_drop, List.length_take]; rfl)) ?_; (with_reducible refine (tok_Show.calls kd_ 0 0 (⟨#[]⟩ : ByteArray) t289 _ ?side1 A69.out).mono ?_); (case side1 => exact GW.below (by repeat (first | (with_reducible first | exact HB.out | apply below_alloc | apply pw_below_drewN | apply below_drew1 | refine below_set ?_ GE268.out) | exact HB.out)) HG.out); rintro e w77 ⟨rfl, hb⟩; refine ⟨_, rfl, ?_⟩; have n0_ := Aside0.mk (blk_below (g := gb268) (o := .cells #[.int .i64 kd_, .int .i64 0, .int .i64 0, .string (⟨#[]⟩ : ByteArray)] 31 (0, 0)) (by (with_reducible repeat (first | refine blk_drewN ?_ _ | refine blk_drew ?_ | refine blk_alloc ?_ _)); exact BK268.out) hb); have n1_ := Aside0.mk (below_step (by repeat (first | (with_reducible first | exact HB.out | apply below_alloc | apply pw_below_drewN | apply below_drew1 | refine below_set ?_ GE268.out) | exact HB.out)) hb); clear BK268; clear HB; have BK268 := n0_; have HB := n1_; clear n0_ n1_; (try clear hb); (try clear hb2); (try clear hk); (try clear hi)) | ((with_reducible refine gate_callee (f := 9) rfl ?_); refine goesL_ (some 46) rfl rfl Tryz.func9 (by kernel_rfl) rfl #[.string (((⟨#[32, 37, 32, 120, 10, 32]⟩ : ByteArray) ++ t289) ++ (⟨#[32, 37]⟩ : ByteArray))] rfl (by (try simp only [List.map_toArray, List.map_cons, List.map_nil]); first | done | rfl | (simp only [List.length_drop, List.length_take]; rfl)) ?_; (with_reducible refine (tok_All.calls kj65 (((⟨#[32, 37, 32, 120, 10, 32]⟩ : ByteArray) ++ t289) ++ (⟨#[32, 37]⟩ : ByteArray)) t290 t291 t292 _ ?side1 A72.out).mono ?_); (case side1 => exact GW.below (by repeat (first | (with_reducible first | exact HB.out | apply below_alloc | apply pw_below_drewN | apply below_drew1 | refine below_set ?_ GE268.out) | exact HB.out)) HG.out); rintro e w78 ⟨v293, rfl, ho0, hb⟩; refine ⟨_, rfl, ?_⟩; have n0_ := Aside0.mk (Kd.R_lower (Kd.R_newB ho0 (g := gb268) (o := .cells #[.int .i64 kd_, .int .i64 0, .int .i64 0, .string (⟨#[]⟩ : ByteArray)] 31 (0, 0)) (by (with_reducible repeat (first | refine blk_drewN ?_ _ | refine blk_drew ?_ | refine blk_alloc ?_ _)); exact BK268.out)) (below_size (by repeat (first | (with_reducible first | exact HB.out | apply below_alloc | apply pw_below_drewN | apply below_drew1 | refine below_set ?_ GE268.out) | exact HB.out)))); have n1_ := Aside0.mk (blk_below (g := gb268) (o := .cells #[.int .i64 kd_, .int .i64 0, .int .i64 0, .string (⟨#[]⟩ : ByteArray)] 31 (0, 0)) (by (with_reducible repeat (first | refine blk_drewN ?_ _ | refine blk_drew ?_ | refine blk_alloc ?_ _)); exact BK268.out) hb); have n2_ := Aside0.mk (below_step (by repeat (first | (with_reducible first | exact HB.out | apply below_alloc | apply pw_below_drewN | apply below_drew1 | refine below_set ?_ GE268.out) | exact HB.out)) hb); clear BK268; clear HB; have HO294 := n0_; have BK268 := n1_; have HB := n2_; clear n0_ n1_ n2_; (try clear hb); (try clear hb2); (try clear hk); (try clear hi); (try clear ho0); have hcz79_0 : w78.cell? ⟨gb268, 0, none⟩ = some (.int .i64 kd_) := (blk_cell BK268.out 0).trans rfl; have hcz79_1 : w78.cell? ⟨gb268, 1, none⟩ = some (.int .i64 0) := (blk_cell BK268.out 1).trans rfl; have hcz79_2 : w78.cell? ⟨gb268, 2, none⟩ = some (.int .i64 0) := (blk_cell BK268.out 2).trans rfl; have hcz79_3 : w78.cell? ⟨gb268, 3, none⟩ = some (.string (⟨#[]⟩ : ByteArray)) := (blk_cell BK268.out 3).trans rfl; have hfz79_0 := blk_frozen BK268.out 0; have hfz79_1 := blk_frozen BK268.out 1; have hfz79_2 := blk_frozen BK268.out 2; have hfz79_3 := blk_frozen BK268.out 3) | ((with_reducible refine gate_dst (N := 58) rfl ?_); (try (refine gate_guard (by rfl) ?_; dsimp only)); refine Kd.R_lit k31 _ 31 ?hg (N := 58) ?hd (xs := ([(⟨kd_, 0, 0, (⟨#[]⟩ : ByteArray)⟩ : S31)] : List (S31))) (inner := [.int .i64 kd_, .int .i64 0, .int .i64 0, .string (⟨#[]⟩ : ByteArray)]) (ok := fun _ => True) (okp := fun _ => True) ?hr ?hp (fun _ hk => hk) trivial (Below.refl _ _) (Nat.le_refl _) (by simp) ?_; (case hd => rfl); (case hg => rfl); (case hr => first | (go_simp; done) | (go_simp; rfl)); (case hp => exact (Reps.c4 (show Kd.M k31 _ _ _ (⟨kd_, 0, 0, (⟨#[]⟩ : ByteArray)⟩ : S31) [.int .i64 kd_, .int .i64 0, .int .i64 0, .string (⟨#[]⟩ : ByteArray)] from (k31_mkM _ _ _ (⟨kd_, 0, 0, (⟨#[]⟩ : ByteArray)⟩ : S31) )) (Reps.none _ _))); intro v296 w80 ho81 hb hg_ hnew_; clear hg_ hnew_; (first | rw [← Ny295.out] at ho81 | (simp only [Int.reduceToNat] at ho81; rw [← Ny295.out] at ho81)); have n0_ := Aside0.mk (Kd.R_elder' (by (with_reducible repeat (first | apply Kd.R_alloc | apply Kd.R_drewN | apply Kd.R_drew)); exact HO294.out) (Kd.R_base ho81) hb); have n1_ := Aside0.mk (Kd.R_lower (Kd.R_newB (Kd.R_new' ho81 (Kd.R_lt (by (with_reducible repeat (first | apply Kd.R_alloc | apply Kd.R_drewN | apply Kd.R_drew)); exact HO294.out))) (g := gb268) (o := .cells #[.int .i64 kd_, .int .i64 0, .int .i64 0, .string (⟨#[]⟩ : ByteArray)] 31 (0, 0)) (by (with_reducible repeat (first | refine blk_drewN ?_ _ | refine blk_drew ?_ | refine blk_alloc ?_ _)); exact BK268.out)) (below_size (by repeat (first | (with_reducible first | exact HB.out | apply below_alloc | apply pw_below_drewN | apply below_drew1 | refine below_set ?_ GE268.out) | exact HB.out)))); have n2_ := Aside0.mk (blk_below (g := gb268) (o := .cells #[.int .i64 kd_, .int .i64 0, .int .i64 0, .string (⟨#[]⟩ : ByteArray)] 31 (0, 0)) (by (with_reducible repeat (first | refine blk_drewN ?_ _ | refine blk_drew ?_ | refine blk_alloc ?_ _)); exact BK268.out) hb); have n3_ := Aside0.mk (below_step (by repeat (first | (with_reducible first | exact HB.out | apply below_alloc | apply pw_below_drewN | apply below_drew1 | refine below_set ?_ GE268.out) | exact HB.out)) hb); clear HO294; clear BK268; clear HB; have HO294 := n0_; have HO297 := n1_; have BK268 := n2_; have HB := n3_; clear n0_ n1_ n2_ n3_; clear hb ho81; obtain ⟨Ao82, co82, eo82⟩ := Kd.R_slice HO294.out; subst eo82; obtain ⟨Ao83, co83, eo83⟩ := Kd.R_slice HO297.out; subst eo83) | (go_at_call 11; (with_reducible refine (hornbookref04_Alike.calls kj65 _ _ t290 _ _ y295 t298 _ ?side1 ?side2 ?side3 ?side4 A75.out).mono ?_); (case side1 => repeat (first | exact (Kd.R_reads' HO294.out).2.2 | (with_reducible refine Kd.C_alloc ?_ _) | (with_reducible refine Kd.C_drewN ?_ _) | (with_reducible refine Kd.C_drew ?_))); (case side2 => exact (Kd.R_reads' HO294.out).2.1); (case side3 => repeat (first | exact (Kd.R_reads' HO297.out).2.2 | (with_reducible refine Kd.C_alloc ?_ _) | (with_reducible refine Kd.C_drewN ?_ _) | (with_reducible refine Kd.C_drew ?_))); (case side4 => exact (Kd.R_reads' HO297.out).2.1); rintro e w' ⟨rfl, ⟨nd, rfl⟩⟩))
                          go_ret
                          exact ⟨by first | rfl | (simp [errW_none, errW_some] <;> rfl) | (simp [*, errW_none, errW_some] <;> rfl), by repeat (first | (with_reducible first | exact HB.out | apply below_alloc | apply pw_below_drewN | apply below_drew1 | refine below_set ?_ GE268.out) | exact HB.out)⟩
                        · rw [if_neg c74] at H
                          have c74b0 : (t292 == 0) = false := beq_eq_false_iff_ne.mpr c74
                          have c74b1 : (t292 != 0) = true := bne_iff_ne.mpr c74
                          obtain rfl := Option.some.inj H
                          have hcz84_0 : wc.cell? ⟨gb268, 0, none⟩ = some (.int .i64 kd_) := (blk_cell BK268.out 0).trans rfl
                          have hcz84_1 : wc.cell? ⟨gb268, 1, none⟩ = some (.int .i64 0) := (blk_cell BK268.out 1).trans rfl
                          have hcz84_2 : wc.cell? ⟨gb268, 2, none⟩ = some (.int .i64 0) := (blk_cell BK268.out 2).trans rfl
                          have hcz84_3 : wc.cell? ⟨gb268, 3, none⟩ = some (.string (⟨#[]⟩ : ByteArray)) := (blk_cell BK268.out 3).trans rfl
                          have hfz84_0 := blk_frozen BK268.out 0
                          have hfz84_1 := blk_frozen BK268.out 1
                          have hfz84_2 := blk_frozen BK268.out 2
                          have hfz84_3 := blk_frozen BK268.out 3
                          go_wp2_with (first | ((with_reducible refine gate_callee (f := 14) rfl ?_); refine goesL_ (some 43) rfl rfl Tryz.func14 (by kernel_rfl) rfl #[.agg #[.int .i64 kd_, .int .i64 0, .int .i64 0, .string (⟨#[]⟩ : ByteArray)]] rfl (by (try simp only [List.map_toArray, List.map_cons, List.map_nil]); first | done | rfl | (simp only [List.length_drop, List.length_take]; rfl)) ?_; (with_reducible refine (tok_Show.calls kd_ 0 0 (⟨#[]⟩ : ByteArray) t289 _ ?side1 A69.out).mono ?_); (case side1 => exact GW.below (by repeat (first | (with_reducible first | exact HB.out | apply below_alloc | apply pw_below_drewN | apply below_drew1 | refine below_set ?_ GE268.out) | exact HB.out)) HG.out); rintro e w85 ⟨rfl, hb⟩; refine ⟨_, rfl, ?_⟩; have n0_ := Aside0.mk (blk_below (g := gb268) (o := .cells #[.int .i64 kd_, .int .i64 0, .int .i64 0, .string (⟨#[]⟩ : ByteArray)] 31 (0, 0)) (by (with_reducible repeat (first | refine blk_drewN ?_ _ | refine blk_drew ?_ | refine blk_alloc ?_ _)); exact BK268.out) hb); have n1_ := Aside0.mk (below_step (by repeat (first | (with_reducible first | exact HB.out | apply below_alloc | apply pw_below_drewN | apply below_drew1 | refine below_set ?_ GE268.out) | exact HB.out)) hb); clear BK268; clear HB; have BK268 := n0_; have HB := n1_; clear n0_ n1_; (try clear hb); (try clear hb2); (try clear hk); (try clear hi)) | ((with_reducible refine gate_callee (f := 9) rfl ?_); refine goesL_ (some 46) rfl rfl Tryz.func9 (by kernel_rfl) rfl #[.string (((⟨#[32, 37, 32, 120, 10, 32]⟩ : ByteArray) ++ t289) ++ (⟨#[32, 37]⟩ : ByteArray))] rfl (by (try simp only [List.map_toArray, List.map_cons, List.map_nil]); first | done | rfl | (simp only [List.length_drop, List.length_take]; rfl)) ?_; (with_reducible refine (tok_All.calls kj65 (((⟨#[32, 37, 32, 120, 10, 32]⟩ : ByteArray) ++ t289) ++ (⟨#[32, 37]⟩ : ByteArray)) t290 t291 t292 _ ?side1 A72.out).mono ?_); (case side1 => exact GW.below (by repeat (first | (with_reducible first | exact HB.out | apply below_alloc | apply pw_below_drewN | apply below_drew1 | refine below_set ?_ GE268.out) | exact HB.out)) HG.out); rintro e w86 ⟨v293, rfl, ho0, hb⟩; refine ⟨_, rfl, ?_⟩; have n0_ := Aside0.mk (Kd.R_lower (Kd.R_newB ho0 (g := gb268) (o := .cells #[.int .i64 kd_, .int .i64 0, .int .i64 0, .string (⟨#[]⟩ : ByteArray)] 31 (0, 0)) (by (with_reducible repeat (first | refine blk_drewN ?_ _ | refine blk_drew ?_ | refine blk_alloc ?_ _)); exact BK268.out)) (below_size (by repeat (first | (with_reducible first | exact HB.out | apply below_alloc | apply pw_below_drewN | apply below_drew1 | refine below_set ?_ GE268.out) | exact HB.out)))); have n1_ := Aside0.mk (blk_below (g := gb268) (o := .cells #[.int .i64 kd_, .int .i64 0, .int .i64 0, .string (⟨#[]⟩ : ByteArray)] 31 (0, 0)) (by (with_reducible repeat (first | refine blk_drewN ?_ _ | refine blk_drew ?_ | refine blk_alloc ?_ _)); exact BK268.out) hb); have n2_ := Aside0.mk (below_step (by repeat (first | (with_reducible first | exact HB.out | apply below_alloc | apply pw_below_drewN | apply below_drew1 | refine below_set ?_ GE268.out) | exact HB.out)) hb); clear BK268; clear HB; have HO294 := n0_; have BK268 := n1_; have HB := n2_; clear n0_ n1_ n2_; (try clear hb); (try clear hb2); (try clear hk); (try clear hi); (try clear ho0)))
                          go_ret
                          exact ⟨by first | rfl | (simp [errW_none, errW_some] <;> rfl) | (simp [*, errW_none, errW_some] <;> rfl), by repeat (first | (with_reducible first | exact HB.out | apply below_alloc | apply pw_below_drewN | apply below_drew1 | refine below_set ?_ GE268.out) | exact HB.out)⟩
                      · replace c73 := Bool.eq_false_iff.mpr c73
                        subst c73
                        have H1 : (some false) = some r := by rw [if_neg (show ¬ (false = true) by decide)] at H; exact H
                        clear H
                        have H := H1
                        clear H1
                        obtain rfl := Option.some.inj H
                        have hcz87_0 : wc.cell? ⟨gb268, 0, none⟩ = some (.int .i64 kd_) := (blk_cell BK268.out 0).trans rfl
                        have hcz87_1 : wc.cell? ⟨gb268, 1, none⟩ = some (.int .i64 0) := (blk_cell BK268.out 1).trans rfl
                        have hcz87_2 : wc.cell? ⟨gb268, 2, none⟩ = some (.int .i64 0) := (blk_cell BK268.out 2).trans rfl
                        have hcz87_3 : wc.cell? ⟨gb268, 3, none⟩ = some (.string (⟨#[]⟩ : ByteArray)) := (blk_cell BK268.out 3).trans rfl
                        have hfz87_0 := blk_frozen BK268.out 0
                        have hfz87_1 := blk_frozen BK268.out 1
                        have hfz87_2 := blk_frozen BK268.out 2
                        have hfz87_3 := blk_frozen BK268.out 3
                        go_wp2_with (first | ((with_reducible refine gate_callee (f := 14) rfl ?_); refine goesL_ (some 43) rfl rfl Tryz.func14 (by kernel_rfl) rfl #[.agg #[.int .i64 kd_, .int .i64 0, .int .i64 0, .string (⟨#[]⟩ : ByteArray)]] rfl (by (try simp only [List.map_toArray, List.map_cons, List.map_nil]); first | done | rfl | (simp only [List.length_drop, List.length_take]; rfl)) ?_; (with_reducible refine (tok_Show.calls kd_ 0 0 (⟨#[]⟩ : ByteArray) t289 _ ?side1 A69.out).mono ?_); (case side1 => exact GW.below (by repeat (first | (with_reducible first | exact HB.out | apply below_alloc | apply pw_below_drewN | apply below_drew1 | refine below_set ?_ GE268.out) | exact HB.out)) HG.out); rintro e w88 ⟨rfl, hb⟩; refine ⟨_, rfl, ?_⟩; have n0_ := Aside0.mk (blk_below (g := gb268) (o := .cells #[.int .i64 kd_, .int .i64 0, .int .i64 0, .string (⟨#[]⟩ : ByteArray)] 31 (0, 0)) (by (with_reducible repeat (first | refine blk_drewN ?_ _ | refine blk_drew ?_ | refine blk_alloc ?_ _)); exact BK268.out) hb); have n1_ := Aside0.mk (below_step (by repeat (first | (with_reducible first | exact HB.out | apply below_alloc | apply pw_below_drewN | apply below_drew1 | refine below_set ?_ GE268.out) | exact HB.out)) hb); clear BK268; clear HB; have BK268 := n0_; have HB := n1_; clear n0_ n1_; (try clear hb); (try clear hb2); (try clear hk); (try clear hi)) | ((with_reducible refine gate_callee (f := 9) rfl ?_); refine goesL_ (some 46) rfl rfl Tryz.func9 (by kernel_rfl) rfl #[.string (((⟨#[32, 37, 32, 120, 10, 32]⟩ : ByteArray) ++ t289) ++ (⟨#[32, 37]⟩ : ByteArray))] rfl (by (try simp only [List.map_toArray, List.map_cons, List.map_nil]); first | done | rfl | (simp only [List.length_drop, List.length_take]; rfl)) ?_; (with_reducible refine (tok_All.calls kj65 (((⟨#[32, 37, 32, 120, 10, 32]⟩ : ByteArray) ++ t289) ++ (⟨#[32, 37]⟩ : ByteArray)) t290 t291 t292 _ ?side1 A72.out).mono ?_); (case side1 => exact GW.below (by repeat (first | (with_reducible first | exact HB.out | apply below_alloc | apply pw_below_drewN | apply below_drew1 | refine below_set ?_ GE268.out) | exact HB.out)) HG.out); rintro e w89 ⟨v293, rfl, ho0, hb⟩; refine ⟨_, rfl, ?_⟩; have n0_ := Aside0.mk (Kd.R_lower (Kd.R_newB ho0 (g := gb268) (o := .cells #[.int .i64 kd_, .int .i64 0, .int .i64 0, .string (⟨#[]⟩ : ByteArray)] 31 (0, 0)) (by (with_reducible repeat (first | refine blk_drewN ?_ _ | refine blk_drew ?_ | refine blk_alloc ?_ _)); exact BK268.out)) (below_size (by repeat (first | (with_reducible first | exact HB.out | apply below_alloc | apply pw_below_drewN | apply below_drew1 | refine below_set ?_ GE268.out) | exact HB.out)))); have n1_ := Aside0.mk (blk_below (g := gb268) (o := .cells #[.int .i64 kd_, .int .i64 0, .int .i64 0, .string (⟨#[]⟩ : ByteArray)] 31 (0, 0)) (by (with_reducible repeat (first | refine blk_drewN ?_ _ | refine blk_drew ?_ | refine blk_alloc ?_ _)); exact BK268.out) hb); have n2_ := Aside0.mk (below_step (by repeat (first | (with_reducible first | exact HB.out | apply below_alloc | apply pw_below_drewN | apply below_drew1 | refine below_set ?_ GE268.out) | exact HB.out)) hb); clear BK268; clear HB; have HO294 := n0_; have BK268 := n1_; have HB := n2_; clear n0_ n1_ n2_; (try clear hb); (try clear hb2); (try clear hk); (try clear hi); (try clear ho0)))
                        go_ret
                        exact ⟨by first | rfl | (simp [errW_none, errW_some] <;> rfl) | (simp [*, errW_none, errW_some] <;> rfl), by repeat (first | (with_reducible first | exact HB.out | apply below_alloc | apply pw_below_drewN | apply below_drew1 | refine below_set ?_ GE268.out) | exact HB.out)⟩
                    · rw [if_neg c71] at H
                      exact absurd H (by simp)
                  · rw [if_neg c70] at H
                    exact absurd H (by simp)
/-- THE ONE PURE STATEMENT of hornbooklaw04_TokKinds: yours. -/
def hornbooklaw04_TokKinds.Pure : Prop := ∀ (a0 : Int) (a1 : Int) (l2 : List Int), (Lit.int .i64 a0).wf = true → (Lit.int .i64 a1).wf = true → l2.length ≤ maxLen → l2.length * 1 ≤ 140737488351232 → (∀ x ∈ l2, (Lit.int .u8 x).wf = true) → ∃ k, hornbooklaw04_TokKinds.f k a0 a1 l2 = some true
theorem hornbooklaw04_TokKinds.walk (P : hornbooklaw04_TokKinds.Pure) (a0 : Int) (a1 : Int) (a2 : Option Addr) (len2 cap2 : Nat) (z2 : List Int) (w : World) (w0 : (Lit.int .i64 a0).wf = true) (w1 : (Lit.int .i64 a1).wf = true) (w2 : (a2 = none ∧ len2 = 0 ∧ cap2 = 0 ∧ z2 = []) ∨ ∃ x, a2 = some x ∧ len2 ≤ cap2 ∧ cap2 ≤ maxLen ∧ z2.length = cap2 ∧ (∀ i, i < z2.length → w.cell? (x.add i) = some (.int .u8 (z2.getD i 0))) ∧ ∀ n ∈ z2, (Lit.int .u8 n).wf = true) (y2 : len2 * 1 ≤ 140737488351232)(hG : GW w) :
    Calls Tryz.prog 6 #[.int .i64 a0, .int .i64 a1, .slice a2 len2 cap2] w fun e w' => e = .returned (.bool true) ∧ Below w.heap.size w w' := by
  obtain ⟨l2, rfl, hr2, hm2, hw2, hc2⟩ := ReadsInt.ofRowC w2
  obtain ⟨k, h⟩ := P a0 a1 l2 w0 w1 hm2 y2 hw2
  refine (hornbooklaw04_TokKinds.calls k a0 a1 _ _ l2 true w hG (Kd.C_of_reads (d := (0 : Int)) (h1 := fun _ => rfl) hr2) hc2 h).mono ?_
  rintro e w' ⟨rfl, hd⟩
  exact ⟨rfl, hd⟩
end Go.Proofs.YtfdikkdbmlcjiaaGreatDoor.M
end
section
namespace Go.Proofs.YtfdikkdbmlcjiaaGreatDoor.M
open Go Go.RowKit
variable {H : Type} {enc : TypeId × Value → H}
theorem returns_both {a : Assume} {C : Checked} {os : Os} {f : FuncId} {fn : Func} {s : ChangeSpec} {conds : List PathCond} {apart fresh handsOn again : Bool} {X : World → Array Value → Prop}
    (hX : ∀ (w w' : World) (args : Array Value), w.heap = w'.heap → X w args → X w' args)
    (own : ownKnob C.prog.godebug = none) (started : os.Started) (noInit : C.prog.inits.idxOf? f = none) (hfn : C.prog.funcs[f]? = some fn)
    (witness : ∃ (w : World) (tape : Tape) (i : Input), w.os = os ∧ (w.forCall tape i).Shaped C.prog ∧ i.vars = [] ∧ Input.okWide C.prog (w.forCall tape i) .any w.heap.size f i ∧
      ((s.pre enc C.prog fn conds apart (w.forCall tape i).memory i.args ∧ X (w.forCall tape i).memory i.args) ∧ sizedMet enc C.prog fn (OpenSpec.ofChange s) apart (w.forCall tape i).memory i.args) ∧ a.holds C.prog (lone (Frame.enter C.prog f i.args .normal) [] (w.forCall tape i)))
    (contract : ∀ (W : World) (base : Nat) (args : Array Value) (ds gs : List (DataW H)) (before : List MemPlace),
      (∀ (j : Nat) t v, fn.params[j]? = some t → args[j]? = some v → Value.okWide C.prog W .any base t v) →
      DataW.Whole enc C.prog fn.params.toList s.vars apart W args.toList ds gs before →
      conds.all (PathCond.test C.prog ⟨fn.params.toList, ds, s.plain.varTypes C.prog, gs⟩) = true →
      (DataW.weightsEach C.prog (fn.params.toList ++ s.plain.varTypes C.prog) (ds ++ gs)).all (· ≤ reachBytes) = true → X W args → W.ShapedOpen C.prog →
      Calls C.prog f args W fun e W' => ∃ v, e = .returned v ∧ s.post enc C.prog fn apart fresh handsOn again W args v W') :
    ReturnsInHanded a C os f .any (fun w args => (s.pre enc C.prog fn conds apart w args ∧ X w args) ∧ sizedMet enc C.prog fn (OpenSpec.ofChange s) apart w args) (s.post enc C.prog fn apart fresh handsOn again) := by
  refine returnsInHanded_of_calls own started noInit witness ?_
  intro w tape i _ hsh _ hok hpre hholds
  obtain ⟨_, _, _, fn', hfn', _, _, _, _, hval⟩ := hok
  have e : fn' = fn := Option.some.inj (hfn'.symm.trans hfn)
  subst e
  obtain ⟨⟨⟨ds, gs, before, hw, hc⟩, hx⟩, hz⟩ := hpre
  have hw' := DataW.Whole.of_heap (w' := w.forCall tape i) (by rfl) hw
  refine (contract (w.forCall tape i) w.heap.size i.args ds gs before hval hw' hc (hz.weights hw) (hX _ _ _ (by rfl) hx) hsh).mono fun e W' ⟨v, he, hp⟩ => ?_
  subst he
  exact ChangeSpec.post_blind hp
theorem gw_star : "*" ++ "errors.errorString" = "*errors.errorString" := by decide
theorem gw_row (u : TypeId) (h : Tryz.prog.typeName? 3 u = some "*errors.errorString") : u = 146 :=
  typeName_ptr_named (nm := "errors.errorString") (by rw [gw_star]; kernel_rfl) (by kernel_rfl) (by decide) u (by rw [gw_star]; exact h)
/-- Out of a row's 'laid', from the two sentinels on, and the world's shape. -/
theorem GW.of_mets {r1 r2 : List (String × DataW Unit)} {t1 t2 : List UInt8} {W : World}
    (h1 : laidMet Tryz.prog (("strconv.ErrRange", .iface "*errors.errorString" (.ptr (.agg [.lit (.string t1)]))) :: r1) W)
    (h2 : laidMet Tryz.prog (("strconv.ErrSyntax", .iface "*errors.errorString" (.ptr (.agg [.lit (.string t2)]))) :: r2) W)
    {r4 : List (String × DataW Unit)} (h4 : laidMet Tryz.prog (("internal/strconv.uint64pow10", Rows.laid_internal_strconv_uint64pow10) :: r4) W)
    (hsh : W.ShapedOpen Tryz.prog) : GW W := by
  obtain ⟨a0, s0, hv0, -, -, -⟩ := laid_sentinel h1 (g := 0) (ti := 60) (by kernel_rfl) (by kernel_rfl) Tryz.underlying60 gw_row Tryz.underlying146 Tryz.underlying148 rfl rfl Tryz.underlying9 (by kernel_rfl) (by kernel_rfl)
  obtain ⟨a1, s1, hv1, -, -, -⟩ := laid_sentinel h2 (g := 3) (ti := 60) (by kernel_rfl) (by kernel_rfl) Tryz.underlying60 gw_row Tryz.underlying146 Tryz.underlying148 rfl rfl Tryz.underlying9 (by kernel_rfl) (by kernel_rfl)
  have c0 := World.var?_cell (P := Tryz.prog) (g := 0) (by kernel_rfl) hv0 0
  have c1 := World.var?_cell (P := Tryz.prog) (g := 3) (by kernel_rfl) hv1 0
  obtain ⟨m, hm⟩ := cell_of_shapedOpen_int (P := Tryz.prog) (g := 1) (t := 3) (zero := #[.int .i64 0]) hsh (of_decide_eq_true (by kernel_rfl)) (by kernel_rfl) rfl (by kernel_rfl) (by kernel_rfl) Tryz.underlying3
  have e4 : (Rows.laid_internal_strconv_uint64pow10 : DataW Unit) = Lib.tabData .u64 Lib.pow10Tab := by kernel_rfl
  rw [e4] at h4
  have hpow : Lib.TabIs Tryz.prog W "internal/strconv.uint64pow10" .u64 Lib.pow10Tab := Lib.tabIs_of_head (g := 2) (by kernel_rfl) (by kernel_rfl) Tryz.underlying131 Tryz.underlying101 (by kernel_rfl) (by kernel_rfl) h4
  exact {
    range := ⟨a0, by simpa using c0⟩
    syn := ⟨a1, by simpa using c1⟩
    max := ⟨m, hm⟩
    pow := hpow
  }
end Go.Proofs.YtfdikkdbmlcjiaaGreatDoor.M
end
section
namespace Go.Proofs.YtfdikkdbmlcjiaaGreatDoor.M
open Go.RowKit Go.Proofs.YtfdikkdbmlcjiaaGreatDoorW.PrintWords
set_option linter.unusedVariables false
set_option linter.unusedSimpArgs false
def isOct (c : UInt8) : Bool := decide (48 ≤ c.toNat) && decide (c.toNat < 56)
def octs (r : List UInt8) : List UInt8 := (r.take 3).takeWhile isOct
def octFold (acc : Nat) (l : List UInt8) : Nat := l.foldl (fun a c => a * 8 + (c.toNat - 48)) acc
theorem octFold_cons (acc : Nat) (c : UInt8) (l : List UInt8) : octFold acc (c :: l) = octFold (acc * 8 + (c.toNat - 48)) l := by unfold octFold; rw [List.foldl_cons]
theorem octFold_nil (acc : Nat) : octFold acc [] = acc := by unfold octFold; rw [List.foldl_nil]
attribute [irreducible] octFold
set_option maxHeartbeats 1600000 in
theorem number_loop (s : ByteArray) (d : Nat) : ∀ (i acc k : Nat), 3 - i = d → i ≤ 3 → i ≤ s.size → acc < 8 ^ i → d + 1 ≤ k →
    tok_number.l0 k s (acc : Int) (i : Int) = some (((octFold acc (((s.data.toList.drop i).take (3 - i)).takeWhile isOct) : Nat) : Int) % 256, ((i + (((s.data.toList.drop i).take (3 - i)).takeWhile isOct).length : Nat) : Int)) := by
  induction d with
  | zero =>
    intro i acc k hd hi hs ha hk
    obtain ⟨k, rfl⟩ : ∃ k', k = k' + 1 := ⟨k - 1, by omega⟩
    have : i = 3 := by omega
    subst this
    rw [tok_number.l0, if_neg (by omega), show 3 - 3 = 0 from rfl, List.take_zero, List.takeWhile_nil, octFold_nil, List.length_nil, Nat.add_zero]
  | succ d ih =>
    intro i acc k hd hi hs ha hk
    obtain ⟨k, rfl⟩ : ∃ k', k = k' + 1 := ⟨k - 1, by omega⟩
    rw [tok_number.l0, if_pos (by omega)]
    by_cases h1 : i < s.size
    · rw [if_pos (by omega), if_pos (by omega)]
      have hL : i < s.data.toList.length := by rw [← size_list]; exact h1
      have hdr : (s.data.toList.drop i).take (3 - i) = s.data.toList[i] :: (s.data.toList.drop (i + 1)).take (3 - (i + 1)) := by
        rw [List.drop_eq_getElem_cons hL, show 3 - i = (3 - (i + 1)) + 1 by omega, List.take_succ_cons]
      rw [hdr, bt_get s i h1]
      generalize s.data.toList[i] = c
      by_cases h2 : (c.toNat : Int) ≥ 48
      · rw [if_pos h2]
        by_cases h3 : (c.toNat : Int) < 56
        · have ho : isOct c = true := by unfold isOct; rw [Bool.and_eq_true, decide_eq_true_eq, decide_eq_true_eq]; omega
          have hi3 : i = 0 ∨ i = 1 ∨ i = 2 := by omega
          have ha2 : acc * 8 + (c.toNat - 48) < 8 ^ (i + 1) := by rw [Nat.pow_succ]; omega
          have hp : (8 : Nat) ^ i ≤ 64 := by rcases hi3 with rfl | rfl | rfl <;> decide
          rw [if_pos h3, List.takeWhile_cons, if_pos ho, octFold_cons, wrap_small (x := (acc : Int) * 8) (by omega) (by omega), show ((c.toNat : Int) - 48) % 256 = (c.toNat : Int) - 48 by omega,
            wrap_small (x := (acc : Int) * 8 + ((c.toNat : Int) - 48)) (by omega) (by omega), wrap_small (x := (i : Int) + 1) (by omega) (by omega)]
          have := ih (i + 1) (acc * 8 + (c.toNat - 48)) k (by omega) (by omega) (by omega) ha2 (by omega)
          rw [show (acc : Int) * 8 + ((c.toNat : Int) - 48) = ((acc * 8 + (c.toNat - 48) : Nat) : Int) by omega, show (i : Int) + 1 = ((i + 1 : Nat) : Int) by omega, this, List.length_cons]
          congr 3
          omega
        · have ho : isOct c = false := by unfold isOct; rw [Bool.and_eq_false_iff, decide_eq_false_iff_not, decide_eq_false_iff_not]; omega
          rw [if_neg h3, List.takeWhile_cons, if_neg (by rw [ho]; decide), octFold_nil, List.length_nil, Nat.add_zero]
      · have ho : isOct c = false := by unfold isOct; rw [Bool.and_eq_false_iff, decide_eq_false_iff_not, decide_eq_false_iff_not]; omega
        rw [if_neg h2, List.takeWhile_cons, if_neg (by rw [ho]; decide), octFold_nil, List.length_nil, Nat.add_zero]
    · rw [if_neg (by omega)]
      have hdr : s.data.toList.drop i = [] := List.drop_eq_nil_of_le (by rw [← size_list]; omega)
      rw [hdr, List.take_nil, List.takeWhile_nil, octFold_nil, List.length_nil, Nat.add_zero]
theorem number_eq (s : ByteArray) {k : Nat} (hk : 4 ≤ k) : tok_number.f k s = some (((octFold 0 (octs s.data.toList) : Nat) : Int) % 256, ((octs s.data.toList).length : Int)) := by
  unfold tok_number.f octs
  have := number_loop s 3 0 0 k rfl (by omega) (by omega) (by decide) (by omega)
  rw [List.drop_zero, Nat.zero_add] at this
  exact this
def letterOf (c : UInt8) : UInt8 := if c = 110 then 10 else if c = 114 then 13 else if c = 116 then 9 else if c = 98 then 8 else if c = 102 then 12 else c
/-- What a text behind a backslash begins with: its bytes, and how many they take. -/
def escG (r : List UInt8) : List UInt8 × Nat :=
  if 0 < (octs r).length then ([(octFold 0 (octs r) % 256).toUInt8], (octs r).length)
  else match r with
  | [] => ([], 0)
  | c :: t => if [13, 10].isPrefixOf (c :: t) then ([], 2) else if c = 10 ∨ c = 13 then ([], 1) else ([letterOf c], 1)
def idxT (c : UInt8) : Int := if c = 110 then 0 else if c = 114 then 1 else if c = 116 then 2 else if c = 98 then 3 else if c = 102 then 4 else -1
theorem idx_all : ∀ n : Fin 256, strings_IndexByte.f (⟨#[110, 114, 116, 98, 102]⟩ : ByteArray) (n.val : Int) = some (idxT n.val.toUInt8) := by decide +kernel
theorem idx_eq (c : UInt8) : strings_IndexByte.f (⟨#[110, 114, 116, 98, 102]⟩ : ByteArray) (c.toNat : Int) = some (idxT c) := by
  have := idx_all ⟨c.toNat, c.toNat_lt⟩
  rw [show ((⟨c.toNat, c.toNat_lt⟩ : Fin 256).val.toUInt8) = c from UInt8.ofNat_toNat] at this
  exact this
theorem str_one (n : Nat) : strOfNums [((n : Nat) : Int) % 256] = ⟨[(n % 256).toUInt8].toArray⟩ := by
  have : ((n : Nat) : Int) % 256 = ((n % 256 : Nat) : Int) := by omega
  rw [this]
  rfl
theorem letter_eq (c : UInt8) (x : ByteArray) (hx : x = ⟨#[c]⟩) : (if idxT c ≥ 0 then (if 0 ≤ idxT c then (if idxT c ≤ wrap64 (idxT c + 1) then (if wrap64 (idxT c + 1) ≤ 5 then some ((⟨#[10, 13, 9, 8, 12]⟩ : ByteArray).extract (idxT c).toNat (wrap64 (idxT c + 1)).toNat, (1 : Int)) else none) else none) else none) else some (x, 1)) = some (⟨#[letterOf c]⟩, 1) := by
  subst hx
  by_cases h1 : c = 110
  · subst h1
    rw [show idxT 110 = 0 by decide, show letterOf 110 = 10 by decide, show wrap64 (0 + 1) = 1 from wrap_small (by decide) (by decide), if_pos (by decide), if_pos (by decide), if_pos (by decide), if_pos (by decide), ext_mid]
    rfl
  by_cases h2 : c = 114
  · subst h2
    rw [show idxT 114 = 1 by decide, show letterOf 114 = 13 by decide, show wrap64 (1 + 1) = 2 from wrap_small (by decide) (by decide), if_pos (by decide), if_pos (by decide), if_pos (by decide), if_pos (by decide), ext_mid]
    rfl
  by_cases h3 : c = 116
  · subst h3
    rw [show idxT 116 = 2 by decide, show letterOf 116 = 9 by decide, show wrap64 (2 + 1) = 3 from wrap_small (by decide) (by decide), if_pos (by decide), if_pos (by decide), if_pos (by decide), if_pos (by decide), ext_mid]
    rfl
  by_cases h4 : c = 98
  · subst h4
    rw [show idxT 98 = 3 by decide, show letterOf 98 = 8 by decide, show wrap64 (3 + 1) = 4 from wrap_small (by decide) (by decide), if_pos (by decide), if_pos (by decide), if_pos (by decide), if_pos (by decide), ext_mid]
    rfl
  by_cases h5 : c = 102
  · subst h5
    rw [show idxT 102 = 4 by decide, show letterOf 102 = 12 by decide, show wrap64 (4 + 1) = 5 from wrap_small (by decide) (by decide), if_pos (by decide), if_pos (by decide), if_pos (by decide), if_pos (by decide), ext_mid]
    rfl
  have e1 : idxT c = -1 := by unfold idxT; simp only [h1, h2, h3, h4, h5, if_false]
  have e2 : letterOf c = c := by unfold letterOf; simp only [h1, h2, h3, h4, h5, if_false]
  rw [e1, e2, if_neg (by decide)]
theorem escaped_eq (s : ByteArray) {k : Nat} (hk : 4 ≤ k) : tok_escaped.f k s = some (⟨(escG s.data.toList).1.toArray⟩, ((escG s.data.toList).2 : Int)) := by
  unfold tok_escaped.f escG
  rw [number_eq s hk, Option.bind_some]
  dsimp only
  by_cases h0 : 0 < (octs s.data.toList).length
  · rw [if_pos (by omega), if_pos h0, str_one]
  rw [if_neg (by omega), if_neg h0]
  obtain ⟨k, rfl⟩ : ∃ k', k = k' + 1 := ⟨k - 1, by omega⟩
  rw [toList_data]
  rcases hs : s.data.toList with _ | ⟨c, t⟩
  · rw [if_pos rfl]; rfl
  rw [if_neg (by simp), hasPrefix_eq, Option.bind_some]
  have hsz : s.size = t.length + 1 := by rw [size_list, hs]; rfl
  have hbt : bt s 0 = c.toNat := by
    have := bt_get s 0 (by omega)
    rw [show ((0 : Nat) : Int) = 0 from rfl] at this
    rw [this]
    congr 1
    simp [hs]
  have hex : s.extract 0 1 = ⟨#[c]⟩ := by
    rw [ext_mid, hs]
    rfl
  rw [hs, show (⟨#[13, 10]⟩ : ByteArray).data.toList = [13, 10] from rfl]
  dsimp only
  by_cases hp : [13, 10].isPrefixOf (c :: t) = true
  · rw [if_pos hp, if_pos hp]; rfl
  rw [if_neg hp, if_neg hp, if_pos (by omega), hbt]
  by_cases h10 : c = 10
  · subst h10
    rw [if_pos (show (((10 : UInt8).toNat : Nat) : Int) = 10 from rfl), if_pos (show (10 : UInt8) = 10 ∨ (10 : UInt8) = 13 from .inl rfl), tok_escaped.j0, if_pos rfl]; rfl
  have n10 : ¬ ((c.toNat : Int) = 10) := fun e => h10 (UInt8.toNat_inj.1 (by show c.toNat = 10; omega))
  rw [if_neg n10, tok_escaped.j0]
  by_cases h13 : c = 13
  · subst h13
    rw [if_pos (show ((((13 : UInt8).toNat : Nat) : Int) == 13) = true from rfl), if_pos (show (13 : UInt8) = 10 ∨ (13 : UInt8) = 13 from .inr rfl)]; rfl
  have n13 : ¬ (((c.toNat : Int) == 13) = true) := fun e => h13 (UInt8.toNat_inj.1 (by have := beq_iff_eq.1 e; show c.toNat = 13; omega))
  rw [if_neg n13, if_neg (show ¬ (c = 10 ∨ c = 13) from fun e => e.elim h10 h13), if_pos (show (0 : Int) < (s.size : Int) by omega), hbt, idx_eq, Option.bind_some, if_pos (show (0 : Nat) ≤ 1 by decide), if_pos (show (1 : Int) ≤ (s.size : Int) by omega), letter_eq c _ hex]
  rfl
end Go.Proofs.YtfdikkdbmlcjiaaGreatDoor.M
end
section
namespace Go.Proofs.YtfdikkdbmlcjiaaGreatDoor.M
open Go.RowKit Go.Proofs.YtfdikkdbmlcjiaaGreatDoorW.PrintWords
set_option linter.unusedVariables false
set_option linter.unusedSimpArgs false
/-- How many bytes a new line takes that a text begins with, if it is one that begins with a carriage return. -/
def lineG (r : List UInt8) : Nat := if [13, 10].isPrefixOf r then 2 else if [13].isPrefixOf r then 1 else 0
theorem line_eq (s : ByteArray) : tok_line.f s = some (lineG s.data.toList : Int) := by
  unfold tok_line.f lineG
  rw [hasPrefix_eq, hasPrefix_eq, Option.bind_some, show (⟨#[13, 10]⟩ : ByteArray).data.toList = [13, 10] from rfl, show (⟨#[13]⟩ : ByteArray).data.toList = [13] from rfl]
  by_cases h1 : [13, 10].isPrefixOf s.data.toList = true
  · rw [if_pos h1, if_pos h1]; rfl
  rw [if_neg h1, if_neg h1, Option.bind_some]
  by_cases h2 : [13].isPrefixOf s.data.toList = true
  · rw [if_pos h2, if_pos h2]; rfl
  · rw [if_neg h2, if_neg h2]; rfl
def deepG (c : UInt8) (deep : Nat) : Nat := if c = 41 then deep - 1 else if c = 40 then deep + 1 else deep
/-- A Str behind its first bracket: the error, its bytes, and what is left. -/
def strG : Nat → Nat → List UInt8 → List UInt8 → Int × List UInt8 × List UInt8
  | 0, _, _, _ => (2, [], [])
  | _ + 1, _, _, [] => (2, [], [])
  | n + 1, deep, out, c :: t =>
    if c = 92 then (if (escG t).2 = 0 then (2, [], []) else strG n deep (out ++ (escG t).1) (t.drop (escG t).2))
    else if c = 41 ∧ deep = 1 then (0, out, t)
    else if c = 40 ∧ deep = 32 then (5, [], c :: t)
    else if 0 < lineG (c :: t) then strG n (deepG c deep) (out ++ [10]) ((c :: t).drop (lineG (c :: t)))
    else strG n (deepG c deep) (out ++ [c]) t
theorem octs_le (r : List UInt8) : (octs r).length ≤ 3 ∧ (octs r).length ≤ r.length := by
  unfold octs
  have h1 := (List.takeWhile_sublist (p := isOct) (l := r.take 3)).length_le
  rw [List.length_take] at h1
  omega
theorem escG_le (r : List UInt8) : (escG r).2 ≤ r.length ∧ (escG r).1.length ≤ 1 := by
  unfold escG
  have h := octs_le r
  split
  · exact ⟨h.2, by simp⟩
  · split
    · simp
    · rename_i c t _ _
      split
      · rename_i hp
        have := (List.isPrefixOf_iff_prefix.1 hp).length_le
        exact ⟨this, by simp⟩
      · split <;> simp
theorem lineG_le (r : List UInt8) : lineG r ≤ r.length ∧ lineG r ≤ 2 := by
  unfold lineG
  split
  · rename_i hp
    have := (List.isPrefixOf_iff_prefix.1 hp).length_le
    exact ⟨this, by omega⟩
  · split
    · rename_i hp
      have := (List.isPrefixOf_iff_prefix.1 hp).length_le
      exact ⟨this, by omega⟩
    · exact ⟨by omega, by omega⟩
theorem from_eq (a0 : ByteArray) (i : Nat) (hi : i ≤ a0.size) : tok_source_from.f a0 (i : Int) = some ⟨(a0.data.toList.drop i).toArray⟩ := by
  have hmn : mn (i : Int) (a0.size : Int) = (i : Int) := by unfold mn; split <;> omega
  unfold tok_source_from.f
  rw [hmn, if_pos (by omega), if_pos (by omega), Int.toNat_natCast, ext_from]
def strAns (a0 : ByteArray) (a1 : Int) (x : Int × List UInt8 × List UInt8) : TokR :=
  if x.1 = 0 then (5, a1, 0, ⟨x.2.1.toArray⟩, ((a0.size - x.2.2.length : Nat) : Int), 0) else (0, 0, 0, ⟨#[]⟩, ((a0.size - x.2.2.length : Nat) : Int), x.1)
set_option maxHeartbeats 1600000 in
theorem strung_loop (a0 : ByteArray) (a1 : Int) (hs : a0.size ≤ 140737488351000) (K : Nat) (hK : 4 ≤ K) : ∀ (n i deep k : Nat) (out : List UInt8), i ≤ a0.size → a0.size - i < n → n ≤ k → 1 ≤ deep → deep ≤ 32 → out.length ≤ i →
    tok_source_strung.g K a0 a1 k out (deep : Int) (i : Int) = some (strAns a0 a1 (strG n deep out (a0.data.toList.drop i)))
  | 0, i, deep, k, out => fun _ h => by omega
  | n + 1, i, deep, k, out => by
    intro hi hn hk hd1 hd2 ho
    obtain ⟨k, rfl⟩ : ∃ k', k = k' + 1 := ⟨k - 1, by omega⟩
    have ih := strung_loop a0 a1 hs K hK n
    rw [tok_source_strung.g, if_pos ⟨by omega, by omega, by omega, by omega, by omega, by omega⟩, from_eq a0 i hi, Option.bind_some]
    have hdl : (a0.data.toList.drop i).length = a0.size - i := by rw [List.length_drop, ← size_list]
    have hdd : ∀ m, (a0.data.toList.drop i).drop m = a0.data.toList.drop (i + m) := fun m => by rw [List.drop_drop]
    generalize hr : a0.data.toList.drop i = r at hdl hdd
    rcases r with _ | ⟨c, t⟩
    · rw [if_pos (show (⟨([] : List UInt8).toArray⟩ : ByteArray).size = 0 from rfl), strG]
      rfl
    have hsz : (⟨(c :: t).toArray⟩ : ByteArray).size = t.length + 1 := by rw [size_list, ba_list]; rfl
    have hbt : bt (⟨(c :: t).toArray⟩ : ByteArray) 0 = (c.toNat : Int) := by
      have := bt_get (⟨(c :: t).toArray⟩ : ByteArray) 0 (by omega)
      rw [show ((0 : Nat) : Int) = 0 from rfl] at this
      rw [this]
      simp
    have htl : (⟨(c :: t).toArray⟩ : ByteArray).extract 1 (⟨(c :: t).toArray⟩ : ByteArray).size = ⟨t.toArray⟩ := by
      have := ext_from (⟨(c :: t).toArray⟩ : ByteArray) 1
      rw [this, ba_list]
      rfl
    rw [List.length_cons] at hdl
    rw [if_neg (by omega), hbt, htl, strG]
    by_cases h92 : c = 92
    · subst h92
      rw [if_pos (show (((92 : UInt8).toNat : Nat) : Int) = 92 from rfl), if_pos (show (92 : UInt8) = 92 from rfl), escaped_eq _ hK, Option.bind_some, ba_list]
      dsimp only
      have he := escG_le t
      by_cases h0 : (escG t).2 = 0
      · rw [if_pos (by omega), if_pos h0]
        rfl
      rw [if_neg (by omega), if_neg h0, if_pos ⟨by omega, by omega, by rw [size_list, ba_list]; omega⟩]
      have := ih (i + 1 + (escG t).2) deep k (out ++ (escG t).1) (by omega) (by omega) (by omega) hd1 hd2 (by rw [List.length_append]; omega)
      rw [show (i : Int) + (1 + ((escG t).2 : Int)) = ((i + 1 + (escG t).2 : Nat) : Int) by omega, this]
      have hx := hdd (1 + (escG t).2)
      rw [show i + (1 + (escG t).2) = i + 1 + (escG t).2 by omega, ← List.drop_drop, List.drop_one, List.tail_cons] at hx
      rw [hx]
    have n92 : ¬ ((c.toNat : Int) = 92) := fun e => h92 (UInt8.toNat_inj.1 (by show c.toNat = 92; omega))
    rw [if_neg n92, if_neg h92]
    have cast : ∀ x : UInt8, ((c.toNat : Int) = (x.toNat : Int)) ↔ c = x := fun x => ⟨fun e => UInt8.toNat_inj.1 (by omega), fun e => by rw [e]⟩
    have c41 := cast 41
    have c40 := cast 40
    rw [show (((41 : UInt8).toNat : Nat) : Int) = 41 from rfl] at c41
    rw [show (((40 : UInt8).toNat : Nat) : Int) = 40 from rfl] at c40
    by_cases h41 : c = 41 ∧ deep = 1
    · rw [if_pos ⟨c41.2 h41.1, by omega⟩, if_pos h41]
      show _ = some (strAns a0 a1 ((0 : Int), out, t))
      unfold strAns
      rw [if_pos rfl]
      dsimp only
      rw [show a0.size - t.length = i + 1 by omega]
      rfl
    rw [if_neg (fun e => h41 ⟨c41.1 e.1, by have := e.2; omega⟩), if_neg h41]
    by_cases h40 : c = 40 ∧ deep = 32
    · rw [if_pos ⟨c40.2 h40.1, by omega⟩, if_pos h40]
      show _ = some (strAns a0 a1 ((5 : Int), [], c :: t))
      unfold strAns
      rw [if_neg (show ¬ (5 : Int) = 0 by decide)]
      dsimp only
      rw [List.length_cons, show a0.size - (t.length + 1) = i by omega]
    rw [if_neg (fun e => h40 ⟨c40.1 e.1, by have := e.2; omega⟩), if_neg h40]
    have hdp : deepOf (c.toNat : Int) (deep : Int) = ((deepG c deep : Nat) : Int) ∧ 1 ≤ deepG c deep ∧ deepG c deep ≤ 32 := by
      unfold deepOf deepG
      by_cases e1 : c = 41
      · have : deep ≠ 1 := fun e => h41 ⟨e1, e⟩
        rw [if_pos (c41.2 e1), if_pos e1]
        omega
      rw [if_neg (fun e => e1 (c41.1 e)), if_neg e1]
      by_cases e2 : c = 40
      · have : deep ≠ 32 := fun e => h40 ⟨e2, e⟩
        rw [if_pos (c40.2 e2), if_pos e2]
        omega
      · rw [if_neg (fun e => e2 (c40.1 e)), if_neg e2]
        omega
    have hl := lineG_le (c :: t)
    rw [List.length_cons] at hl
    rw [line_eq, Option.bind_some, ba_list, hdp.1]
    by_cases h0 : 0 < lineG (c :: t)
    · rw [if_pos ⟨by omega, by omega⟩, if_pos h0]
      have := ih (i + lineG (c :: t)) (deepG c deep) k (out ++ [10]) (by omega) (by omega) (by omega) hdp.2.1 hdp.2.2 (by rw [List.length_append, List.length_singleton]; omega)
      rw [show (i : Int) + (lineG (c :: t) : Int) = ((i + lineG (c :: t) : Nat) : Int) by omega, this, hdd]
    · rw [if_neg (fun e => h0 (by have := e.1; omega)), if_pos (by omega), if_neg h0, show (c.toNat : Int).toNat.toUInt8 = c from by rw [Int.toNat_natCast]; exact UInt8.ofNat_toNat]
      have := ih (i + 1) (deepG c deep) k (out ++ [c]) (by omega) (by omega) (by omega) hdp.2.1 hdp.2.2 (by rw [List.length_append, List.length_singleton]; omega)
      rw [show (i : Int) + 1 = ((i + 1 : Nat) : Int) by omega, this, ← hdd 1]
      rfl
end Go.Proofs.YtfdikkdbmlcjiaaGreatDoor.M
end
section
namespace Go.Proofs.YtfdikkdbmlcjiaaGreatDoor.M
open Go.RowKit Go.Proofs.YtfdikkdbmlcjiaaGreatDoorW.PrintWords
set_option linter.unusedVariables false
set_option linter.unusedSimpArgs false
/-- A digit that waits for its second one stands as a byte already. -/
def rowOf (acc : List Int) : Option Int → List Int
  | none => acc
  | some h => acc ++ [h * 16]
def unhG : List Int → Option Int → List UInt8 → Int × List Int × List UInt8
  | acc, hi, [] => (0, rowOf acc hi, [])
  | acc, hi, c :: t => match hexVal c.toNat with
    | some v => (match hi with | none => unhG acc (some v) t | some h => unhG (acc ++ [h * 16 + v]) none t)
    | none => if isWhite c.toNat = true then unhG acc hi t else (1, [], c :: t)
def unhAns (s : ByteArray) (x : Int × List Int × List UInt8) : List Int × Int × Int := if x.1 = 0 then (x.2.1, (s.size : Int), 0) else ([], ((s.size - x.2.2.length : Nat) : Int), 1)
theorem hexVal_lt {c v : Int} (h : hexVal c = some v) : 0 ≤ v ∧ v < 16 := by
  unfold hexVal at h
  split at h
  · injection h; omega
  · split at h
    · injection h; omega
    · split at h
      · injection h; omega
      · cases h
theorem or_all : ∀ h v : Fin 16, Go.bits .or .u8 ((h.val : Int) * 16) (v.val : Int) = (h.val : Int) * 16 + v.val := by decide +kernel
theorem or_eq (h v : Int) (h0 : 0 ≤ h) (h1 : h < 16) (v0 : 0 ≤ v) (v1 : v < 16) : Go.bits .or .u8 (h * 16) v = h * 16 + v := by
  have := or_all ⟨h.toNat, by omega⟩ ⟨v.toNat, by omega⟩
  dsimp only at this
  rw [Int.toNat_of_nonneg h0, Int.toNat_of_nonneg v0] at this
  exact this
theorem rowOf_length (acc : List Int) (hi : Option Int) : (rowOf acc hi).length ≤ acc.length + 1 := by
  unfold rowOf; split <;> simp
set_option maxHeartbeats 1600000 in
theorem unhex_loop (s : ByteArray) (hs : s.size < 140737488355000) (d : Nat) : ∀ (i k : Nat) (acc : List Int) (hi : Option Int), s.size - i = d → i ≤ s.size → 2 * d + 4 ≤ k → acc.length + 1 ≤ i + 1 → (∀ h, hi = some h → 0 ≤ h ∧ h < 16) →
    hex_UnHex.l0 k s (rowOf acc hi) hi.isNone (s.size : Int) (i : Int) = some (unhAns s (unhG acc hi (s.data.toList.drop i))) := by
  induction d with
  | zero =>
    intro i k acc hi hd h0 hk ha hh
    obtain ⟨k, rfl⟩ : ∃ k', k = k' + 1 := ⟨k - 1, by omega⟩
    rw [hex_UnHex.l0, if_neg (by omega), List.drop_eq_nil_of_le (by rw [← size_list]; omega)]
    cases hi <;> rfl
  | succ d ih =>
    intro i k acc hi hd h0 hk ha hh
    obtain ⟨k, rfl⟩ : ∃ k', k = k' + 2 := ⟨k - 2, by omega⟩
    have hlt : i < s.size := by omega
    have hL : i < s.data.toList.length := by rw [← size_list]; exact hlt
    have hdr := List.drop_eq_getElem_cons hL
    have hrem : (s.data.toList.drop i).length = s.size - i := by rw [List.length_drop, ← size_list]
    rw [hex_UnHex.l0, if_pos (by omega), if_pos (by omega), if_pos (by omega), bt_get s i hlt]
    rw [hdr] at hrem ⊢
    generalize s.data.toList[i] = c at hrem ⊢
    have hc := c.toNat_lt
    have hnx : wrap64 ((i : Int) + 1) = ((i + 1 : Nat) : Int) := wrap_small (by omega) (by omega)
    rw [wrap_small (x := (c.toNat : Int)) (by omega) (by omega), digit_eq (by omega) _ (by omega) (by omega), Option.bind_some]
    dsimp only
    rw [unhG]
    have ih2 := ih (i + 1) k
    cases hv : hexVal c.toNat with
    | some v =>
      have hvb := hexVal_lt hv
      rw [if_pos (show (some v).isSome = true from rfl), hex_UnHex.j1, if_neg (show ¬ (false = true) by decide), if_pos (show (some v).isSome = true from rfl), hnx]
      dsimp only [Option.getD_some]
      cases hi with
      | none =>
        rw [if_pos (show (none : Option Int).isNone = true from rfl), if_pos (by have := rowOf_length acc none; omega), wrap_small (x := v * 16) (by omega) (by omega), show v * 16 % 256 = v * 16 by omega]
        have := ih2 acc (some v) (by omega) (by omega) (by omega) (by omega) (fun h e => by cases e; exact hvb)
        exact this
      | some h =>
        have hb := hh h rfl
        have hlen : (rowOf acc (some h)).length = acc.length + 1 := by simp [rowOf]
        rw [if_neg (show ¬ ((some h).isNone = true) by simp), hlen, wrap_small (x := ((acc.length + 1 : Nat) : Int) - 1) (by omega) (by omega), if_pos (by omega), if_pos (by omega), show (((acc.length + 1 : Nat) : Int) - 1) = (acc.length : Int) by omega]
        have hrd : rd (rowOf acc (some h)) (acc.length : Int) = h * 16 := by
          unfold rd rowOf
          rw [Int.toNat_natCast]
          simp
        have hset : (rowOf acc (some h)).set (acc.length : Int).toNat (h * 16 + v) = acc ++ [h * 16 + v] := by
          rw [Int.toNat_natCast]
          simp [rowOf]
        rw [hrd, show v % 256 = v by omega, or_eq h v hb.1 hb.2 hvb.1 hvb.2, hset]
        have := ih2 (acc ++ [h * 16 + v]) none (by omega) (by omega) (by omega) (by rw [List.length_append, List.length_singleton]; omega) (fun h e => by cases e)
        exact this
    | none =>
      rw [if_neg (show ¬ ((none : Option Int).isSome = true) by simp)]
      rw [show hex_White.f (c.toNat : Int) = some (isWhite c.toNat) from rfl, Option.bind_some, hex_UnHex.j1]
      by_cases hw : isWhite c.toNat = true
      · rw [if_pos hw, if_pos hw, hnx]
        exact ih2 acc hi (by omega) (by omega) (by omega) (by omega) hh
      · rw [if_neg hw, if_neg hw, if_neg (show ¬ ((none : Option Int).isSome = true) by simp)]
        unfold unhAns
        rw [if_neg (show ¬ (1 : Int) = 0 by decide)]
        dsimp only
        rw [hrem, show s.size - (s.size - i) = i by omega]
theorem unhex_eq (s : ByteArray) (hs : s.size < 140737488355000) {k : Nat} (hk : 2 * s.size + 4 ≤ k) : hex_UnHex.f k s = some (unhAns s (unhG [] none s.data.toList)) := by
  have := unhex_loop s hs s.size 0 k [] none (by omega) (by omega) hk (by simp) (fun h e => by cases e)
  rw [List.drop_zero] at this
  exact this
end Go.Proofs.YtfdikkdbmlcjiaaGreatDoor.M
end
section
namespace Go.Proofs.YtfdikkdbmlcjiaaGreatDoor.M
open Go.RowKit Go.Proofs.YtfdikkdbmlcjiaaGreatDoorW.PrintWords
set_option linter.unusedVariables false
def isRegB (c : UInt8) : Bool := clsOf c.toNat == 0
def wordAt (l : List UInt8) (i : Nat) : List UInt8 := (l.drop i).takeWhile isRegB
def placeN (s : ByteArray) (a : Int) : Nat := (max 0 (min a s.size)).toNat
theorem placeN_le (s : ByteArray) (a : Int) : placeN s a ≤ s.size := by unfold placeN; omega
theorem place_eq (s : ByteArray) (a : Int) : lex_place.f s a = some (placeN s a : Int) := by
  unfold lex_place.f placeN
  congr 1
  unfold mx mn
  repeat' split
  all_goals omega
theorem wordAt_cons (l : List UInt8) (i : Nat) (h : i < l.length) (hr : isRegB l[i] = true) : wordAt l i = l[i] :: wordAt l (i + 1) := by
  unfold wordAt
  rw [List.drop_eq_getElem_cons h, List.takeWhile_cons, if_pos hr]
theorem wordAt_stop (l : List UInt8) (i : Nat) (h : i < l.length) (hr : isRegB l[i] = false) : wordAt l i = [] := by
  unfold wordAt
  rw [List.drop_eq_getElem_cons h, List.takeWhile_cons, if_neg (by simp [hr])]
theorem wordAt_end (l : List UInt8) (i : Nat) (h : l.length ≤ i) : wordAt l i = [] := by
  unfold wordAt
  rw [List.drop_of_length_le h]; rfl
theorem wordAt_le (l : List UInt8) (i : Nat) (h : i ≤ l.length) : i + (wordAt l i).length ≤ l.length := by
  have : (wordAt l i).length ≤ (l.drop i).length := by unfold wordAt; exact (List.takeWhile_prefix _).length_le
  rw [List.length_drop] at this; omega
theorem cls_get (s : ByteArray) (i : Nat) (h : i < s.size) {k : Nat} (hk : 2 ≤ k) : lex_Class.f k (wrap64 (bt s i)) = some (clsOf (s.data.toList[i]'(by simpa using h)).toNat) := by
  have hr := bt_range s i
  rw [wrap_small hr.1 (by omega), bt_get s i h, class_eq hk]
theorem word_loop (s : ByteArray) (hs : s.size < 4611686018427387904) (a : Nat) (d : Nat) : ∀ (i k : Nat), s.size - i = d → i ≤ s.size → a ≤ i → d + 4 ≤ k →
    lex_Word.l0 k s a i = some (s.extract a (i + (wordAt s.data.toList i).length), ((i + (wordAt s.data.toList i).length : Nat) : Int)) := by
  induction d with
  | zero =>
    intro i k hd hi ha hk
    obtain ⟨k, rfl⟩ : ∃ m, k = m + 1 := ⟨k - 1, by omega⟩
    simp only [lex_Word.l0]
    rw [wordAt_end _ _ (by rw [← size_list]; omega), if_neg (by omega), if_pos (by omega), if_pos (by omega), if_pos (by omega)]
    simp
  | succ d ih =>
    intro i k hd hi ha hk
    obtain ⟨k, rfl⟩ : ∃ m, k = m + 1 := ⟨k - 1, by omega⟩
    have hlt : i < s.size := by omega
    have hl : i < s.data.toList.length := by rw [← size_list]; exact hlt
    simp only [lex_Word.l0]
    rw [if_pos (by omega), if_pos (by omega), cls_get s i hlt (by omega)]
    simp only [Option.bind_some]
    by_cases hr : isRegB s.data.toList[i] = true
    · have h0 : clsOf (s.data.toList[i]).toNat = 0 := by simpa [isRegB] using hr
      rw [if_pos h0, wrap_small (by omega) (by omega)]
      have := ih (i + 1) k (by omega) (by omega) (by omega) (by omega)
      rw [show ((i : Int) + 1) = ((i + 1 : Nat) : Int) by omega, this, wordAt_cons _ _ hl hr]
      simp only [List.length_cons]
      rw [show i + 1 + (wordAt s.data.toList (i + 1)).length = i + ((wordAt s.data.toList (i + 1)).length + 1) by omega]
    · have h0 : ¬ clsOf (s.data.toList[i]).toNat = 0 := by simpa [isRegB] using hr
      have hr' : isRegB s.data.toList[i] = false := by simpa using hr
      rw [if_neg h0, wordAt_stop _ _ hl hr', if_pos (by omega), if_pos (by omega), if_pos (by omega)]
      simp
/-- What Word tells. -/
theorem word_eq (s : ByteArray) (hs : s.size < 4611686018427387904) (a : Int) {k : Nat} (hk : s.size + 4 ≤ k) :
    lex_Word.f k s a = some (⟨(wordAt s.data.toList (placeN s a)).toArray⟩, ((placeN s a + (wordAt s.data.toList (placeN s a)).length : Nat) : Int)) := by
  unfold lex_Word.f
  rw [place_eq]
  simp only [Option.bind_some]
  rw [word_loop s hs (placeN s a) _ (placeN s a) k rfl (placeN_le s a) (Nat.le_refl _) (by omega), ext_mid]
  have e : (s.data.toList.drop (placeN s a)).take (placeN s a + (wordAt s.data.toList (placeN s a)).length - placeN s a) = wordAt s.data.toList (placeN s a) := by
    rw [Nat.add_sub_cancel_left]
    unfold wordAt
    exact (List.prefix_iff_eq_take.1 (List.takeWhile_prefix _)).symm
  rw [e]
theorem hex_back : ∀ n : Fin 256, hexVal (hexDig (n.val / 16)).toNat = some ((n.val / 16 : Nat) : Int) ∧ hexVal (hexDig (n.val % 16)).toNat = some ((n.val % 16 : Nat) : Int) := by decide +kernel
theorem write_ok : ∀ n : Fin 256, (writeOf n.val.toUInt8).all (fun c => decide (33 ≤ c.toNat) && decide (c.toNat ≤ 126) && isRegB c) = true := by decide +kernel
theorem writeOf_ok (c : UInt8) : (writeOf c).all (fun c => decide (33 ≤ c.toNat) && decide (c.toNat ≤ 126) && isRegB c) = true := by
  have := write_ok ⟨c.toNat, c.toNat_lt⟩
  simpa using this
theorem writeBytes_ok (l : List UInt8) : (writeBytes l).all (fun c => decide (33 ≤ c.toNat) && decide (c.toNat ≤ 126) && isRegB c) = true := by
  unfold writeBytes
  rw [List.all_flatMap]
  exact List.all_eq_true.2 fun c _ => writeOf_ok c
theorem name_write (l : List UInt8) : nameGo (writeBytes l) = l := by
  induction l with
  | nil => rfl
  | cons c l ih =>
    simp only [writeBytes, List.flatMap_cons] at ih ⊢
    by_cases hp : isPlainB (c.toNat : Int) = true
    · have e : writeOf c = [c] := by unfold writeOf; rw [if_pos hp]
      have hc : (c == 35) = false := by
        rw [beq_eq_false_iff_ne]
        rintro rfl
        simp [isPlainB] at hp
      rw [e]
      show nameGo (c :: List.flatMap writeOf l) = _
      rw [nameGo_plain c _ hc, ih]
    · have e : writeOf c = 35 :: hexOf c.toNat := by unfold writeOf; rw [if_neg hp]
      have hb := hex_back ⟨c.toNat, c.toNat_lt⟩
      simp only at hb
      rw [e]
      simp only [hexOf, Int.toNat_natCast]
      show nameGo (35 :: hexDig (c.toNat / 16) :: hexDig (c.toNat % 16) :: List.flatMap writeOf l) = _
      rw [nameGo_yes _ _ _ _ _ hb.1 hb.2, ih]
      congr 1
      have : (((c.toNat / 16 : Nat) : Int) * 16 + ((c.toNat % 16 : Nat) : Int)).toNat = c.toNat := by omega
      rw [this]
      simp
end Go.Proofs.YtfdikkdbmlcjiaaGreatDoor.M
end
section
namespace Go.Proofs.YtfdikkdbmlcjiaaGreatDoor.M
open Go.RowKit Go.Proofs.YtfdikkdbmlcjiaaGreatDoorW.PrintWords
set_option linter.unusedVariables false
def isNL (c : UInt8) : Bool := c == 10 || c == 13
/-- How many bytes are skipped; the first argument: in a remark. -/
def skipG : Bool → List UInt8 → Nat
  | _, [] => 0
  | true, c :: r => 1 + skipG (!isNL c) r
  | false, c :: r => if c == 37 then 1 + skipG true r else if clsOf c.toNat == 1 then 1 + skipG false r else 0
def nlAt (r : List UInt8) : Nat := (r.takeWhile (fun c => !isNL c)).length
theorem skipG_le : ∀ (l : List UInt8) (b : Bool), skipG b l ≤ l.length
  | [], b => by cases b <;> simp [skipG]
  | c :: r, true => by have := skipG_le r (!isNL c); simp only [skipG, List.length_cons]; omega
  | c :: r, false => by
    have h1 := skipG_le r true
    have h2 := skipG_le r false
    simp only [skipG, List.length_cons]
    split
    · omega
    · split <;> omega
theorem skipG_stable : ∀ (l : List UInt8) (b : Bool), skipG false (l.drop (skipG b l)) = 0
  | [], b => by cases b <;> simp [skipG]
  | c :: r, true => by
    have := skipG_stable r (!isNL c)
    simp only [skipG]
    rw [Nat.add_comm, List.drop_succ_cons]; exact this
  | c :: r, false => by
    have h1 := skipG_stable r true
    have h2 := skipG_stable r false
    rw [skipG]
    split
    · rw [Nat.add_comm, List.drop_succ_cons]; exact h1
    · split
      · rw [Nat.add_comm, List.drop_succ_cons]; exact h2
      · rename_i n1 n2
        rw [List.drop_zero, skipG, if_neg n1, if_neg n2]
theorem skipG_zero (c : UInt8) (r : List UInt8) (h : skipG false (c :: r) = 0) : (c == 37) = false ∧ (clsOf c.toNat == 1) = false := by
  rw [skipG] at h
  split at h
  · omega
  · split at h
    · omega
    · rename_i n1 n2
      exact ⟨by simpa using n1, by simpa using n2⟩
theorem skipG_remark : ∀ r : List UInt8, skipG true r = if nlAt r < r.length then nlAt r + 1 + skipG false (r.drop (nlAt r + 1)) else r.length
  | [] => by simp [skipG, nlAt]
  | c :: r => by
    have ih := skipG_remark r
    simp only [skipG]
    cases hc : isNL c with
    | true =>
      have e : nlAt (c :: r) = 0 := by simp [nlAt, hc]
      rw [e, if_pos (by simp)]
      simp
    | false =>
      have e : nlAt (c :: r) = nlAt r + 1 := by simp [nlAt, hc]
      rw [e, Bool.not_false, ih]
      simp only [List.length_cons, List.drop_succ_cons]
      by_cases hl : nlAt r < r.length
      · rw [if_pos hl, if_pos (by omega)]; omega
      · rw [if_neg hl, if_neg (by omega)]; omega
/-- Where the remark ends, as the program finds it. -/
def endOf (r : List UInt8) : Int := if 0 ≤ Lib.indexByte r 13 ∧ (Lib.indexByte r 10 < 0 ∨ Lib.indexByte r 13 < Lib.indexByte r 10) then Lib.indexByte r 13 else Lib.indexByte r 10
theorem indexByte_cons (c : UInt8) (r : List UInt8) (x : UInt8) : Lib.indexByte (c :: r) x = if c = x then 0 else if Lib.indexByte r x = -1 then -1 else Lib.indexByte r x + 1 := by
  simp [Lib.indexByte]
theorem endOf_eq : ∀ r : List UInt8, endOf r = if nlAt r < r.length then (nlAt r : Int) else -1
  | [] => by simp [endOf, nlAt, Lib.indexByte]
  | c :: r => by
    have ih := endOf_eq r
    have ha := Lib.indexByte_ge r 10
    have hb := Lib.indexByte_ge r 13
    have ea := indexByte_cons c r 10
    have eb := indexByte_cons c r 13
    unfold endOf at ih ⊢
    generalize Lib.indexByte (c :: r) 10 = A at ea ⊢
    generalize Lib.indexByte (c :: r) 13 = B at eb ⊢
    generalize Lib.indexByte r 10 = a at ea ih ha
    generalize Lib.indexByte r 13 = b at eb ih hb
    by_cases h10 : c = 10
    · subst h10
      have e : nlAt (10 :: r) = 0 := by simp [nlAt, isNL]
      rw [if_pos rfl] at ea
      rw [if_neg (by decide)] at eb
      have hr : (if nlAt (10 :: r) < (10 :: r).length then ((nlAt (10 :: r) : Nat) : Int) else -1) = 0 := by rw [e]; simp
      rw [hr]
      split at eb <;> (split <;> omega)
    · by_cases h13 : c = 13
      · subst h13
        have e : nlAt (13 :: r) = 0 := by simp [nlAt, isNL]
        rw [if_pos rfl] at eb
        rw [if_neg (by decide)] at ea
        have hr : (if nlAt (13 :: r) < (13 :: r).length then ((nlAt (13 :: r) : Nat) : Int) else -1) = 0 := by rw [e]; simp
        rw [hr]
        split at ea <;> (split <;> omega)
      · have e : nlAt (c :: r) = nlAt r + 1 := by simp [nlAt, isNL, h10, h13]
        rw [if_neg h10] at ea
        rw [if_neg h13] at eb
        by_cases hn : nlAt r < r.length
        · rw [if_pos hn] at ih
          have hr : (if nlAt (c :: r) < (c :: r).length then ((nlAt (c :: r) : Nat) : Int) else -1) = ((nlAt r + 1 : Nat) : Int) := by rw [e, List.length_cons, if_pos (by omega)]
          rw [hr]
          split at ih <;> split at ea <;> split at eb <;> (split <;> omega)
        · rw [if_neg hn] at ih
          have hr : (if nlAt (c :: r) < (c :: r).length then ((nlAt (c :: r) : Nat) : Int) else -1) = -1 := by rw [e, List.length_cons, if_neg (by omega)]
          rw [hr]
          split at ih <;> split at ea <;> split at eb <;> (split <;> omega)
theorem skip_loop (s : ByteArray) (hs : s.size < 4611686018427387904) (d : Nat) : ∀ (i k : Nat), s.size - i ≤ d → i ≤ s.size → 2 * d + 4 ≤ k →
    lex_Skip.l0 k s i = some ((i + skipG false (s.data.toList.drop i) : Nat) : Int) := by
  induction d with
  | zero =>
    intro i k hd hi hk
    obtain ⟨k, rfl⟩ : ∃ m, k = m + 1 := ⟨k - 1, by omega⟩
    simp only [lex_Skip.l0]
    rw [if_neg (by omega), List.drop_of_length_le (by rw [← size_list]; omega)]
    simp [skipG]
  | succ d ih =>
    intro i k hd hi hk
    obtain ⟨k, rfl⟩ : ∃ m, k = m + 1 := ⟨k - 1, by omega⟩
    by_cases hlt : i < s.size
    · have hl : i < s.data.toList.length := by rw [← size_list]; exact hlt
      simp only [lex_Skip.l0]
      rw [if_pos (by omega), if_pos (by omega), bt_get s i hlt, List.drop_eq_getElem_cons hl]
      by_cases hc : (s.data.toList[i].toNat : Int) = 37
      · have hc' : s.data.toList[i] = 37 := UInt8.toNat_inj.1 (show s.data.toList[i].toNat = (37 : UInt8).toNat by have : (37 : UInt8).toNat = 37 := rfl; omega)
        rw [if_pos hc, if_pos (by omega)]
        obtain ⟨k, rfl⟩ : ∃ m, k = m + 1 := ⟨k - 1, by omega⟩
        have hx : s.extract (i : Int).toNat s.size = ⟨(s.data.toList.drop i).toArray⟩ := by rw [Int.toNat_natCast, ext_from]
        rw [hx]
        simp only [strings_IndexByte.f, Option.bind_some, show (Int.toNat 13).toUInt8 = 13 from rfl, show (Int.toNat 10).toUInt8 = 10 from rfl]
        have hb := Lib.indexByte_ge (s.data.toList.drop i) 13
        have ha := Lib.indexByte_ge (s.data.toList.drop i) 10
        have he := endOf_eq (s.data.toList.drop i)
        have hlen : (s.data.toList.drop i).length = s.size - i := by rw [List.length_drop, ← size_list]
        have hnl : nlAt (s.data.toList.drop i) ≤ (s.data.toList.drop i).length := by unfold nlAt; exact (List.takeWhile_prefix _).length_le
        have hsk : skipG false (s.data.toList[i] :: s.data.toList.drop (i + 1)) = skipG true (s.data.toList.drop i) := by
          rw [List.drop_eq_getElem_cons hl, hc']; simp [skipG, isNL]
        rw [hsk, skipG_remark]
        have key : lex_Skip.j1 (k + 1) s i (Lib.indexByte (s.data.toList.drop i) 10) (Lib.indexByte (s.data.toList.drop i) 13) (decide (0 ≤ Lib.indexByte (s.data.toList.drop i) 13 ∧ (Lib.indexByte (s.data.toList.drop i) 10 < 0 ∨ Lib.indexByte (s.data.toList.drop i) 13 < Lib.indexByte (s.data.toList.drop i) 10))) = if endOf (s.data.toList.drop i) < 0 then some (s.size : Int) else lex_Skip.l0 k s (wrap64 ((wrap64 (i + endOf (s.data.toList.drop i))) + 1)) := by
          by_cases hcnd : 0 ≤ Lib.indexByte (s.data.toList.drop i) 13 ∧ (Lib.indexByte (s.data.toList.drop i) 10 < 0 ∨ Lib.indexByte (s.data.toList.drop i) 13 < Lib.indexByte (s.data.toList.drop i) 10)
          · have e : endOf (s.data.toList.drop i) = Lib.indexByte (s.data.toList.drop i) 13 := by unfold endOf; rw [if_pos hcnd]
            rw [e, decide_eq_true hcnd, lex_Skip.j1, if_pos rfl]
          · have e : endOf (s.data.toList.drop i) = Lib.indexByte (s.data.toList.drop i) 10 := by unfold endOf; rw [if_neg hcnd]
            rw [e, decide_eq_false hcnd, lex_Skip.j1, if_neg (by decide)]
        have key2 : (if Lib.indexByte (s.data.toList.drop i) 13 ≥ 0 then (if Lib.indexByte (s.data.toList.drop i) 10 < 0 then lex_Skip.j1 (k + 1) s i (Lib.indexByte (s.data.toList.drop i) 10) (Lib.indexByte (s.data.toList.drop i) 13) true else lex_Skip.j1 (k + 1) s i (Lib.indexByte (s.data.toList.drop i) 10) (Lib.indexByte (s.data.toList.drop i) 13) (decide (Lib.indexByte (s.data.toList.drop i) 13 < Lib.indexByte (s.data.toList.drop i) 10))) else lex_Skip.j1 (k + 1) s i (Lib.indexByte (s.data.toList.drop i) 10) (Lib.indexByte (s.data.toList.drop i) 13) false) = lex_Skip.j1 (k + 1) s i (Lib.indexByte (s.data.toList.drop i) 10) (Lib.indexByte (s.data.toList.drop i) 13) (decide (0 ≤ Lib.indexByte (s.data.toList.drop i) 13 ∧ (Lib.indexByte (s.data.toList.drop i) 10 < 0 ∨ Lib.indexByte (s.data.toList.drop i) 13 < Lib.indexByte (s.data.toList.drop i) 10))) := by
          split
          · rename_i h1
            split
            · rename_i h2
              rw [decide_eq_true (show _ ∧ _ from ⟨h1, .inl h2⟩)]
            · rename_i h2
              congr 1
              rw [decide_eq_decide]
              constructor
              · intro h3; exact ⟨h1, .inr h3⟩
              · rintro ⟨_, h3 | h3⟩
                · exact absurd h3 h2
                · exact h3
          · rename_i h1
            rw [decide_eq_false (show ¬ (_ ∧ _) from fun h3 => h1 h3.1)]
        rw [key2, key]
        clear key key2 ha hb hx hc hc' hsk
        · rw [he]
          clear he
          have hih := fun (n : Nat) (h : n < (s.data.toList.drop i).length) => ih (i + n + 1) k (by omega) (by omega) (by omega)
          clear ih
          generalize (s.data.toList.drop i).length = L at *
          generalize hnn : nlAt (s.data.toList.drop i) = n at *
          clear hnn
          by_cases hn : n < L
          · rw [if_pos hn, if_pos hn, if_neg (by omega)]
            have e1 : wrap64 ((i : Int) + (n : Int)) = (i : Int) + (n : Int) := wrap_small (by omega) (by omega)
            have e2 : wrap64 ((i : Int) + (n : Int) + 1) = ((i + n + 1 : Nat) : Int) := by
              rw [wrap_small (by omega) (by omega)]; omega
            rw [e1, e2, hih n hn, List.drop_drop, show i + n + 1 = i + (n + 1) by omega, Nat.add_assoc]
          · rw [if_neg hn, if_neg hn, if_pos (by omega)]
            congr 1
            omega
      · have hc' : (s.data.toList[i] == 37) = false := by
          rw [beq_eq_false_iff_ne]; intro e; apply hc; rw [e]; rfl
        rw [if_neg hc, ← bt_get s i hlt, cls_get s i hlt (by omega)]
        simp only [Option.bind_some]
        have hr : skipG false (s.data.toList[i] :: s.data.toList.drop (i + 1)) = if clsOf (s.data.toList[i]).toNat == 1 then 1 + skipG false (s.data.toList.drop (i + 1)) else 0 := by
          rw [skipG, hc']; rfl
        rw [hr]
        by_cases h1 : clsOf (s.data.toList[i]).toNat = 1
        · rw [if_pos h1, if_pos (by simpa using h1), wrap_small (by omega) (by omega)]
          have := ih (i + 1) k (by omega) (by omega) (by omega)
          rw [show ((i : Int) + 1) = ((i + 1 : Nat) : Int) by omega, this]
          congr 1
          omega
        · rw [if_neg h1, if_neg (by simpa using h1)]
          rfl
    · simp only [lex_Skip.l0]
      rw [if_neg (by omega), List.drop_of_length_le (by rw [← size_list]; omega)]
      simp [skipG]
/-- What Skip tells. -/
def skipN (s : ByteArray) (a : Int) : Nat := placeN s a + skipG false (s.data.toList.drop (placeN s a))
theorem skipN_le (s : ByteArray) (a : Int) : skipN s a ≤ s.size := by
  have h1 := skipG_le (s.data.toList.drop (placeN s a)) false
  have h2 := placeN_le s a
  rw [List.length_drop, ← size_list] at h1
  unfold skipN; omega
theorem skip_eq (s : ByteArray) (hs : s.size < 4611686018427387904) (a : Int) {k : Nat} (hk : 2 * s.size + 4 ≤ k) : lex_Skip.f k s a = some (skipN s a : Int) := by
  unfold lex_Skip.f
  rw [place_eq]
  simp only [Option.bind_some]
  rw [skip_loop s hs s.size _ k (by omega) (placeN_le s a) hk]
  rfl
end Go.Proofs.YtfdikkdbmlcjiaaGreatDoor.M
end
section
namespace Go.Proofs.YtfdikkdbmlcjiaaGreatDoor.M
open Go.RowKit Go.Proofs.YtfdikkdbmlcjiaaGreatDoorW.PrintWords
set_option linter.unusedVariables false
set_option linter.unusedSimpArgs false
/-- Kind, number, text, length (or the error's place), error. -/
abbrev NxR := Int × Int × ByteArray × Nat × Int
def nxErr (len : Nat) (e : Int) : NxR := (0, 0, ⟨#[]⟩, len, e)
def hexedG (t : List UInt8) : NxR :=
  if (Lib.cut t [62]).2.2 = true then
    (if (unhG [] none (Lib.cut t [62]).1).1 = 0 then (4, 0, strOfNums (unhG [] none (Lib.cut t [62]).1).2.1, (Lib.cut t [62]).1.length + 2, 0)
     else nxErr (1 + ((Lib.cut t [62]).1.length - (unhG [] none (Lib.cut t [62]).1).2.2.length)) 1)
  else nxErr (t.length + 1) 2
def strungG (t : List UInt8) : NxR :=
  if (strG (t.length + 1) 1 [] t).1 = 0 then (5, 0, ⟨(strG (t.length + 1) 1 [] t).2.1.toArray⟩, t.length + 1 - (strG (t.length + 1) 1 [] t).2.2.length, 0)
  else nxErr (t.length + 1 - (strG (t.length + 1) 1 [] t).2.2.length) (strG (t.length + 1) 1 [] t).1
def wordedG (r : List UInt8) : NxR :=
  if (lexInt (wordAt r 0)).2 = 0 then (1, (lexInt (wordAt r 0)).1, ⟨#[]⟩, (wordAt r 0).length, 0)
  else if (lexInt (wordAt r 0)).2 = 3 then (3, 0, ⟨(wordAt r 0).toArray⟩, (wordAt r 0).length, 0)
  else nxErr 0 (lexInt (wordAt r 0)).2
def nextR (r : List UInt8) : NxR :=
  match signOf r with
  | some (x, m) => (x, 0, ⟨#[]⟩, m, 0)
  | none => match r with
    | [] => (0, 0, ⟨#[]⟩, 0, 0)
    | c :: t =>
      if c = 41 ∨ c = 62 then nxErr 0 3
      else if c = 47 then (2, 0, ⟨(nameGo (wordAt t 0)).toArray⟩, 1 + (wordAt t 0).length, 0)
      else if c = 60 then hexedG t
      else if c = 40 then strungG t
      else wordedG (c :: t)
def nxAns (p : Nat) (x : NxR) : TokR := if x.2.2.2.2 = 0 then (x.1, (p : Int), x.2.1, x.2.2.1, ((p + x.2.2.2.1 : Nat) : Int), 0) else (0, 0, 0, ⟨#[]⟩, ((p + x.2.2.2.1 : Nat) : Int), x.2.2.2.2)
theorem strG_rem : ∀ (n deep : Nat) (out r : List UInt8), (strG n deep out r).2.2.length ≤ r.length
  | 0, _, _, _ => by simp [strG]
  | _ + 1, _, _, [] => by simp [strG]
  | n + 1, deep, out, c :: t => by
    have ih := strG_rem n
    rw [strG]
    split
    · split
      · simp
      · refine Nat.le_trans (ih _ _ _) ?_
        rw [List.length_drop, List.length_cons]; omega
    · split
      · simp
      · split
        · simp
        · split
          · refine Nat.le_trans (ih _ _ _) ?_
            rw [List.length_drop]; omega
          · refine Nat.le_trans (ih _ _ _) ?_
            simp
theorem strung_rel (a0 : ByteArray) (p k : Nat) (t : List UInt8) (hs : a0.size ≤ 140737488351000) (hp : p < a0.size) (hk : a0.size + 4 ≤ k) (ht : a0.data.toList.drop (p + 1) = t) :
    tok_source_strung.f k a0 (p : Int) = some (nxAns p (strungG t)) := by
  have hl : t.length = a0.size - (p + 1) := by rw [← ht, List.length_drop, ← size_list]
  unfold tok_source_strung.f
  rw [if_pos ⟨by omega, by omega⟩]
  have := strung_loop a0 p hs k (by omega) (t.length + 1) (p + 1) 1 k [] (by omega) (by omega) (by omega) (by omega) (by omega) (by simp)
  rw [ht] at this
  rw [show (p : Int) + 1 = ((p + 1 : Nat) : Int) by omega, show (1 : Int) = ((1 : Nat) : Int) from rfl, this]
  congr 1
  have hr : (strG (t.length + 1) 1 [] t).2.2.length ≤ t.length := by
    exact strG_rem _ _ _ _
  unfold strAns strungG nxAns
  by_cases h0 : (strG (t.length + 1) 1 [] t).1 = 0
  · rw [if_pos h0, if_pos h0]
    dsimp only
    rw [if_pos rfl, show p + (t.length + 1 - (strG (t.length + 1) 1 [] t).2.2.length) = a0.size - (strG (t.length + 1) 1 [] t).2.2.length by omega]
  · rw [if_neg h0, if_neg h0]
    unfold nxErr
    dsimp only
    rw [if_neg h0, show p + (t.length + 1 - (strG (t.length + 1) 1 [] t).2.2.length) = a0.size - (strG (t.length + 1) 1 [] t).2.2.length by omega]
theorem worded_rel (a0 : ByteArray) (p k : Nat) (hs : a0.size ≤ 140737488351000) (hp : p ≤ a0.size) (hk : a0.size + 4 ≤ k) :
    tok_source_worded.f k a0 (p : Int) = some (nxAns p (wordedG (a0.data.toList.drop p))) := by
  have hpl : placeN a0 (p : Int) = p := by unfold placeN; omega
  have hw : wordAt (a0.data.toList.drop p) 0 = wordAt a0.data.toList p := by unfold wordAt; rw [List.drop_zero]
  have hl := wordAt_le a0.data.toList p (by rw [← size_list]; exact hp)
  unfold tok_source_worded.f
  rw [word_eq a0 (by omega) _ hk, Option.bind_some, hpl]
  unfold wordedG
  rw [hw]
  dsimp only
  rw [show lex_Int.f (⟨(wordAt a0.data.toList p).toArray⟩ : ByteArray) = some (lexInt (wordAt a0.data.toList p)) from by
    unfold lex_Int.f
    rw [if_pos (by rw [size_list, ba_list]; rw [← size_list] at hl; omega), ba_list], Option.bind_some]
  by_cases h0 : (lexInt (wordAt a0.data.toList p)).2 = 0
  · rw [if_pos h0, if_pos h0]
    rfl
  rw [if_neg h0, if_neg h0]
  by_cases h3 : (lexInt (wordAt a0.data.toList p)).2 = 3
  · rw [if_pos h3, if_pos h3]
    rfl
  rw [if_neg h3, if_neg h3]
  unfold nxAns nxErr
  dsimp only
  rw [if_neg h0, Nat.add_zero]
theorem index_gt : ∀ t : List UInt8, Lib.index t [62] = if 62 ∈ t then ((t.takeWhile (fun c => c != 62)).length : Int) else -1
  | [] => by simp [Lib.index]
  | b :: l => by
    have ih := index_gt l
    rw [Lib.index]
    by_cases hb : b = 62
    · subst hb
      rw [if_pos (by simp [List.isPrefixOf]), if_pos (by simp)]
      simp
    · rw [if_neg (by simp [List.isPrefixOf]; exact fun e => hb e.symm), ih]
      by_cases hm : 62 ∈ l
      · rw [if_pos hm, if_neg (by rw [beq_iff_eq]; omega), if_pos (List.mem_cons_of_mem _ hm), List.takeWhile_cons, if_pos (by simpa using hb), List.length_cons]
        omega
      · rw [if_neg hm, if_pos (by rfl), if_neg (by simp [hm]; exact fun e => hb e.symm)]
theorem cut_gt (t : List UInt8) : Lib.cut t [62] = if 62 ∈ t then (t.takeWhile (fun c => c != 62), t.drop ((t.takeWhile (fun c => c != 62)).length + 1), true) else (t, [], false) := by
  unfold Lib.cut
  rw [index_gt]
  by_cases hm : 62 ∈ t
  · rw [if_pos hm, if_pos (by omega), if_pos hm, Int.toNat_natCast, ← List.prefix_iff_eq_take.1 (List.takeWhile_prefix _)]
    rfl
  · rw [if_neg hm, if_neg (by decide), if_neg hm]
theorem take_gt : ∀ t : List UInt8, 62 ∈ t → (t.takeWhile (fun c => c != 62)).length + 1 ≤ t.length
  | [], h => by cases h
  | b :: l, h => by
    by_cases hb : b = 62
    · subst hb; simp
    · have hm : 62 ∈ l := by
        rcases List.mem_cons.1 h with e | e
        · exact absurd e.symm hb
        · exact e
      have := take_gt l hm
      rw [List.takeWhile_cons, if_pos (by simpa using hb), List.length_cons, List.length_cons]
      omega
theorem hexed_rel (a0 : ByteArray) (p k : Nat) (t : List UInt8) (hs : a0.size ≤ 4294967000) (hp : p < a0.size) (hk : 2 * a0.size + 4 ≤ k) (ht : a0.data.toList.drop (p + 1) = t) :
    tok_source_hexed.f k a0 (p : Int) = some (nxAns p (hexedG t)) := by
  have hl : t.length = a0.size - (p + 1) := by rw [← ht, List.length_drop, ← size_list]
  have hcl : (Lib.cut t [62]).2.2 = true → (Lib.cut t [62]).1.length + 1 ≤ t.length := by
    rw [cut_gt]
    split
    · rename_i hm
      exact fun _ => take_gt t hm
    · exact fun h => by cases h
  unfold tok_source_hexed.f
  rw [wrap_small (x := (p : Int) + 1) (by omega) (by omega), show (p : Int) + 1 = ((p + 1 : Nat) : Int) by omega, from_eq a0 (p + 1) (by omega), ht, Option.bind_some]
  have hts : (⟨t.toArray⟩ : ByteArray).size = t.length := by rw [size_list, ba_list]
  have hcs : (⟨(Lib.cut t [62]).1.toArray⟩ : ByteArray).size = (Lib.cut t [62]).1.length := by rw [size_list, ba_list]
  unfold strings_Cut.f
  rw [if_pos (by omega), Option.bind_some, ba_list, show (⟨#[62]⟩ : ByteArray).data.toList = [62] from rfl]
  unfold hexedG
  dsimp only
  by_cases hf : (Lib.cut t [62]).2.2 = true
  · have hfl := hcl hf
    rw [if_pos hf, if_pos hf, unhex_eq _ (by omega) (by omega), Option.bind_some, ba_list]
    unfold unhAns
    by_cases h0 : (unhG [] none (Lib.cut t [62]).1).1 = 0
    · rw [if_pos h0, if_pos h0]
      dsimp only
      rw [if_pos rfl, hcs, wrap_small (x := (p : Int) + ((Lib.cut t [62]).1.length : Int)) (by omega) (by omega), wrap_small (by omega) (by omega)]
      unfold nxAns
      dsimp only
      rw [if_pos rfl, show (p : Int) + ((Lib.cut t [62]).1.length : Int) + 2 = ((p + ((Lib.cut t [62]).1.length + 2) : Nat) : Int) by omega]
    · rw [if_neg h0, if_neg h0]
      dsimp only
      rw [if_neg (show ¬ (1 : Int) = 0 by decide), hcs]
      unfold nxAns nxErr
      dsimp only
      rw [if_neg (show ¬ (1 : Int) = 0 by decide), wrap_small (by omega) (by omega), show ((p + 1 : Nat) : Int) + (((Lib.cut t [62]).1.length - (unhG [] none (Lib.cut t [62]).1).2.2.length : Nat) : Int) = ((p + (1 + ((Lib.cut t [62]).1.length - (unhG [] none (Lib.cut t [62]).1).2.2.length)) : Nat) : Int) by omega]
  · rw [if_neg hf, if_neg hf]
    unfold nxAns nxErr
    dsimp only
    rw [if_neg (show ¬ (2 : Int) = 0 by decide), show p + (t.length + 1) = a0.size by omega]
end Go.Proofs.YtfdikkdbmlcjiaaGreatDoor.M
end
section
namespace Go.Proofs.YtfdikkdbmlcjiaaGreatDoor.M
open Go.RowKit Go.Proofs.YtfdikkdbmlcjiaaGreatDoorW.PrintWords
set_option linter.unusedVariables false
set_option linter.unusedSimpArgs false
def nextA (s : ByteArray) (a : Int) : TokR := if skipN s a = s.size then (0, (s.size : Int), 0, ⟨#[]⟩, (s.size : Int), 0) else nxAns (skipN s a) (nextR (s.data.toList.drop (skipN s a)))
set_option maxHeartbeats 1600000 in
theorem next_eq (s : ByteArray) (a : Int) (hs : s.size ≤ 4294967000) {k : Nat} (hk : 2 * s.size + 8 ≤ k) : tok_Next.f k s a = some (nextA s a) := by
  unfold tok_Next.f nextA
  rw [skip_eq s (by omega) a (by omega), Option.bind_some]
  have hpl := skipN_le s a
  generalize skipN s a = p at hpl
  by_cases he : p = s.size
  · rw [if_pos (by omega), if_pos he, he]
  rw [if_neg (by omega), if_neg he]
  have hp : p < s.size := by omega
  have hL : p < s.data.toList.length := by rw [← size_list]; exact hp
  have hdr := List.drop_eq_getElem_cons hL
  have hbt := bt_get s p hp
  rw [show tok_source_sign.f s (p : Int) = (match signOf (s.data.toList.drop p) with | some (x, n) => some (x, (p : Int), 0, ⟨#[]⟩, (p : Int) + n, true) | none => some (0, 0, 0, ⟨#[]⟩, (p : Int), false)) from by
    unfold tok_source_sign.f
    rw [if_pos ⟨by omega, by omega, by omega⟩, Int.toNat_natCast]
    cases signOf (s.data.toList.drop p) <;> rfl]
  unfold nextR
  cases hsg : signOf (s.data.toList.drop p) with
  | some xm =>
    obtain ⟨x, m⟩ := xm
    dsimp only
    rw [Option.bind_some, if_pos rfl]
    unfold nxAns
    dsimp only
    rw [if_pos rfl, show (p : Int) + (m : Int) = ((p + m : Nat) : Int) by omega]
  | none =>
    dsimp only
    rw [Option.bind_some]
    dsimp only
    rw [if_neg (show ¬ (false = true) by decide), if_pos (by omega), if_pos (by omega), hbt]
    have ht : s.data.toList.drop (p + 1) = s.data.toList.drop (p + 1) := rfl
    have hw := worded_rel s p
    rw [hdr] at hw ⊢
    generalize s.data.toList[p] = c at hw ⊢
    generalize hT : s.data.toList.drop (p + 1) = t at hw ⊢
    have hst := fun k => strung_rel s p k t (by omega) hp
    have hhx := fun k => hexed_rel s p k t hs hp
    obtain ⟨k, rfl⟩ : ∃ k', k = k' + 1 := ⟨k - 1, by omega⟩
    have cst : ∀ x : UInt8, ((c.toNat : Int) = (x.toNat : Int)) ↔ c = x := fun x => ⟨fun e => UInt8.toNat_inj.1 (by omega), fun e => by rw [e]⟩
    have c41 : ((c.toNat : Int) = 41) ↔ c = 41 := cst 41
    have c62 : ((c.toNat : Int) = 62) ↔ c = 62 := cst 62
    have c47 : ((c.toNat : Int) = 47) ↔ c = 47 := cst 47
    have c60 : ((c.toNat : Int) = 60) ↔ c = 60 := cst 60
    have c40 : ((c.toNat : Int) = 40) ↔ c = 40 := cst 40
    have key : ∀ b : Bool, (b = true ↔ (c = 41 ∨ c = 62)) → tok_Next.j0 (k + 1) s (p : Int) s (c.toNat : Int) b = some (nxAns p (if c = 41 ∨ c = 62 then nxErr 0 3 else if c = 47 then (2, 0, ⟨(nameGo (wordAt t 0)).toArray⟩, 1 + (wordAt t 0).length, 0) else if c = 60 then hexedG t else if c = 40 then strungG t else wordedG (c :: t))) := by
      intro b hb
      rw [tok_Next.j0]
      by_cases h : c = 41 ∨ c = 62
      · rw [if_pos (hb.2 h), if_pos h]
        rfl
      rw [if_neg (fun e => h (hb.1 e)), if_neg h]
      by_cases h1 : c = 47
      · rw [if_pos (c47.2 h1), if_pos h1, wrap_small (x := (p : Int) + 1) (by omega) (by omega), word_eq s (by omega) _ (by omega), Option.bind_some]
        have hpn : placeN s ((p : Int) + 1) = p + 1 := by unfold placeN; omega
        have hwa : wordAt s.data.toList (p + 1) = wordAt t 0 := by unfold wordAt; rw [hT, List.drop_zero]
        have hwl := wordAt_le s.data.toList (p + 1) (by rw [← size_list]; omega)
        rw [← size_list, hwa] at hwl
        rw [hpn, hwa]
        dsimp only
        rw [show lex_Name.f (⟨(wordAt t 0).toArray⟩ : ByteArray) = some ⟨(nameGo (wordAt t 0)).toArray⟩ from by
          unfold lex_Name.f
          rw [if_pos (by rw [size_list, ba_list]; omega), ba_list], Option.bind_some]
        unfold nxAns
        dsimp only
        rw [if_pos rfl, show p + (1 + (wordAt t 0).length) = p + 1 + (wordAt t 0).length by omega]
      rw [if_neg (fun e => h1 (c47.1 e)), if_neg h1]
      by_cases h2 : c = 60
      · rw [if_pos (c60.2 h2), if_pos h2, hhx k (by omega) hT, Option.bind_some]
      rw [if_neg (fun e => h2 (c60.1 e)), if_neg h2]
      by_cases h3 : c = 40
      · rw [if_pos (c40.2 h3), if_pos h3, hst k (by omega) hT, Option.bind_some]
      rw [if_neg (fun e => h3 (c40.1 e)), if_neg h3, hw k (by omega) (by omega) (by omega), Option.bind_some]
    by_cases h : (c.toNat : Int) = 41
    · rw [if_pos h]
      exact key _ ⟨fun _ => .inl (c41.1 h), fun _ => beq_iff_eq.2 h⟩
    · rw [if_neg h]
      refine key _ ⟨fun e => .inr (c62.1 (beq_iff_eq.1 e)), fun e => beq_iff_eq.2 ?_⟩
      rcases e with e | e
      · exact absurd (c41.2 e) h
      · exact c62.2 e
end Go.Proofs.YtfdikkdbmlcjiaaGreatDoor.M
end
section
namespace Go.Proofs.YtfdikkdbmlcjiaaGreatDoor.M
open Go.RowKit Go.Proofs.YtfdikkdbmlcjiaaGreatDoorW.PrintWords
set_option linter.unusedVariables false
set_option linter.unusedSimpArgs false
theorem nameGo_len : ∀ l : List UInt8, (nameGo l).length ≤ l.length
  | [] => Nat.le_refl _
  | [c] => by rw [nameGo_short c [] (by simp)]; simp [nameGo]
  | [c, a] => by
    rw [nameGo_short c [a] (by simp), nameGo_short a [] (by simp)]; simp [nameGo]
  | c :: a :: b :: l => by
    have h1 := nameGo_len (a :: b :: l)
    have h2 := nameGo_len l
    by_cases hc : (c == 35) = false
    · rw [nameGo_plain c _ hc]
      simp only [List.length_cons] at h1 ⊢; omega
    · cases ha : hexVal a.toNat with
      | none => rw [nameGo_no c a b l (by rw [ha]; rfl)]; simp only [List.length_cons] at h1 ⊢; omega
      | some x => cases hb : hexVal b.toNat with
        | none => rw [nameGo_no c a b l (by rw [ha, hb]; rfl)]; simp only [List.length_cons] at h1 ⊢; omega
        | some y =>
          have hc' : c = 35 := by simpa using hc
          rw [hc', nameGo_yes a b l x y ha hb]; simp only [List.length_cons] at h2 ⊢; omega
theorem strG_out : ∀ (n deep : Nat) (out r : List UInt8), (strG n deep out r).1 = 0 → (strG n deep out r).2.1.length + (strG n deep out r).2.2.length + 1 ≤ out.length + r.length
  | 0, _, _, _ => by intro h; exact absurd h (by simp [strG])
  | _ + 1, _, _, [] => by intro h; exact absurd h (by simp [strG])
  | n + 1, deep, out, c :: t => by
    have ih := strG_out n
    have he := escG_le t
    have hl := lineG_le (c :: t)
    rw [strG]
    split
    · split
      · intro h; exact absurd h (by decide)
      · intro h
        have := ih _ _ _ h
        rw [List.length_append, List.length_drop] at this
        rw [List.length_cons]; omega
    · split
      · intro _; simp only [List.length_cons]; omega
      · split
        · intro h; exact absurd (show (5 : Int) = 0 from h) (by decide)
        · split
          · intro h
            have := ih _ _ _ h
            rw [List.length_append, List.length_drop, List.length_singleton] at this
            omega
          · intro h
            have := ih _ _ _ h
            rw [List.length_append, List.length_singleton] at this
            rw [List.length_cons]; omega
theorem unhG_out : ∀ (t : List UInt8) (acc : List Int) (hi : Option Int), (unhG acc hi t).2.1.length ≤ acc.length + t.length + 1 ∧ (hi = none → (unhG acc hi t).2.1.length ≤ acc.length + t.length) ∧ (unhG acc hi t).2.2.length ≤ t.length
  | [], acc, hi => by
    rw [unhG]
    have := rowOf_length acc hi
    refine ⟨by simpa using this, ?_, by simp⟩
    rintro rfl
    simp [rowOf]
  | c :: t, acc, hi => by
    rw [unhG]
    cases hexVal c.toNat with
    | some v =>
      cases hi with
      | none =>
        have ih := unhG_out t acc (some v)
        simp only [List.length_cons]
        exact ⟨by omega, fun _ => by omega, by omega⟩
      | some h =>
        have ih := unhG_out t (acc ++ [h * 16 + v]) none
        simp only [List.length_cons, List.length_append, List.length_nil] at ih ⊢
        exact ⟨by omega, fun e => by (cases e), by omega⟩
    | none =>
      dsimp only
      split
      · have ih := unhG_out t acc hi
        simp only [List.length_cons]
        exact ⟨by omega, fun e => by have := ih.2.1 e; omega, by omega⟩
      · simp
theorem str_nums_size (l : List Int) : (strOfNums l).size = l.length := by
  unfold strOfNums
  show (List.toArray _).size = _
  simp
/-- What is told of the next token: how long it is, what kind, how long its text is. -/
def NxOk (r : List UInt8) (x : NxR) : Prop := x.2.2.2.1 ≤ r.length ∧ (x.2.2.2.2 = 0 → 1 ≤ x.2.2.2.1 ∧ 1 ≤ x.1 ∧ x.1 ≤ 11 ∧ x.2.2.1.size ≤ x.2.2.2.1)
theorem nxErr_ok (r : List UInt8) (len : Nat) (e : Int) (he : e ≠ 0) (hl : len ≤ r.length) : NxOk r (nxErr len e) := ⟨hl, fun h => absurd h he⟩
theorem hexedG_ok (c : UInt8) (t : List UInt8) : NxOk (c :: t) (hexedG t) := by
  unfold hexedG
  rw [cut_gt]
  by_cases hm : 62 ∈ t
  · rw [if_pos hm]
    dsimp only
    have ht := take_gt t hm
    have hu := unhG_out (t.takeWhile (fun c => c != 62)) [] none
    rw [if_pos rfl]
    split
    · refine ⟨by simp only [List.length_cons]; omega, fun _ => ⟨by simp, by show (1 : Int) ≤ 4; decide, by show (4 : Int) ≤ 11; decide, ?_⟩⟩
      dsimp only
      rw [str_nums_size]
      have := hu.2.1 rfl
      simp only [List.length_nil] at this
      omega
    · exact nxErr_ok _ _ _ (by decide) (by simp only [List.length_cons]; omega)
  · rw [if_neg hm]
    dsimp only
    rw [if_neg (by decide)]
    exact nxErr_ok _ _ _ (by decide) (by simp)
theorem strungG_ok (c : UInt8) (t : List UInt8) : NxOk (c :: t) (strungG t) := by
  unfold strungG
  have hr := strG_rem (t.length + 1) 1 [] t
  split
  · rename_i h
    have ho := strG_out (t.length + 1) 1 [] t h
    simp only [List.length_nil] at ho
    refine ⟨by dsimp only; rw [List.length_cons]; omega, fun _ => ⟨by dsimp only; omega, by show (1 : Int) ≤ 5; decide, by show (5 : Int) ≤ 11; decide, ?_⟩⟩
    dsimp only
    rw [ba_size]
    omega
  · rename_i h
    exact nxErr_ok _ _ _ h (by rw [List.length_cons]; omega)
theorem wordAt_zero (r : List UInt8) : wordAt r 0 = r.takeWhile isRegB := by unfold wordAt; rw [List.drop_zero]
theorem wordedG_ok (r : List UInt8) (h : 1 ≤ (wordAt r 0).length) : NxOk r (wordedG r) := by
  have hl := wordAt_le r 0 (by omega)
  unfold wordedG
  split
  · refine ⟨by dsimp only; omega, fun _ => ⟨h, by show (1 : Int) ≤ 1; decide, by show (1 : Int) ≤ 11; decide, ?_⟩⟩
    dsimp only
    show 0 ≤ _
    omega
  · split
    · refine ⟨by dsimp only; omega, fun _ => ⟨h, by show (1 : Int) ≤ 3; decide, by show (3 : Int) ≤ 11; decide, ?_⟩⟩
      dsimp only
      rw [ba_size]
      omega
    · rename_i h0 _
      exact nxErr_ok _ _ _ h0 (by omega)
theorem signOf_len (r : List UInt8) (x : Int) (m : Nat) (h : signOf r = some (x, m)) : ∃ s, isSign x s ∧ s.isPrefixOf r = true ∧ m = s.length := by
  unfold signOf at h
  have fin : ∀ (y : Int) (s : List UInt8), isSign y s → s.isPrefixOf r = true → (y, s.length) = (x, m) → ∃ s, isSign x s ∧ s.isPrefixOf r = true ∧ m = s.length := by
    intro y s hy hs e
    injection e with e1 e2
    subst e1 e2
    exact ⟨s, hy, hs, rfl⟩
  split at h
  · rename_i hp; exact fin 6 [91] (by simp [isSign]) hp (Option.some.inj h)
  split at h
  · rename_i hp; exact fin 7 [93] (by simp [isSign]) hp (Option.some.inj h)
  split at h
  · rename_i hp; exact fin 8 [60, 60] (by simp [isSign]) hp (Option.some.inj h)
  split at h
  · rename_i hp; exact fin 9 [62, 62] (by simp [isSign]) hp (Option.some.inj h)
  split at h
  · rename_i hp; exact fin 10 [123] (by simp [isSign]) hp (Option.some.inj h)
  split at h
  · rename_i hp; exact fin 11 [125] (by simp [isSign]) hp (Option.some.inj h)
  · cases h
theorem sign_ok {x : Int} {s r : List UInt8} (hs : isSign x s) (hp : s.isPrefixOf r = true) : NxOk r (x, 0, ⟨#[]⟩, s.length, 0) := by
  have hl := (List.isPrefixOf_iff_prefix.1 hp).length_le
  refine ⟨hl, fun _ => ?_⟩
  dsimp only
  refine ⟨?_, ?_, ?_, Nat.zero_le _⟩
  · rcases hs with ⟨rfl, rfl⟩ | ⟨rfl, rfl⟩ | ⟨rfl, rfl⟩ | ⟨rfl, rfl⟩ | ⟨rfl, rfl⟩ | ⟨rfl, rfl⟩ <;> decide
  · rcases hs with ⟨rfl, rfl⟩ | ⟨rfl, rfl⟩ | ⟨rfl, rfl⟩ | ⟨rfl, rfl⟩ | ⟨rfl, rfl⟩ | ⟨rfl, rfl⟩ <;> decide
  · rcases hs with ⟨rfl, rfl⟩ | ⟨rfl, rfl⟩ | ⟨rfl, rfl⟩ | ⟨rfl, rfl⟩ | ⟨rfl, rfl⟩ | ⟨rfl, rfl⟩ <;> decide
/-- A byte is regular, a blank, or one of ten. -/
theorem byte_cases : ∀ n : Fin 256, isRegB n.val.toUInt8 = true ∨ (clsOf (n.val.toUInt8).toNat == 1) = true ∨ n.val.toUInt8 ∈ ([40, 41, 60, 62, 91, 93, 123, 125, 47, 37] : List UInt8) := by decide +kernel
theorem byte_case (c : UInt8) : isRegB c = true ∨ (clsOf c.toNat == 1) = true ∨ c ∈ ([40, 41, 60, 62, 91, 93, 123, 125, 47, 37] : List UInt8) := by
  have := byte_cases ⟨c.toNat, c.toNat_lt⟩
  rw [show ((⟨c.toNat, c.toNat_lt⟩ : Fin 256).val.toUInt8) = c from UInt8.ofNat_toNat] at this
  exact this
theorem sign_first {c : UInt8} (t : List UInt8) (h : c = 91 ∨ c = 93 ∨ c = 123 ∨ c = 125) : signOf (c :: t) ≠ none := by
  rcases h with rfl | rfl | rfl | rfl <;> simp [signOf, List.isPrefixOf]
theorem nextR_ok (c : UInt8) (t : List UInt8) (hk : skipG false (c :: t) = 0) : NxOk (c :: t) (nextR (c :: t)) := by
  unfold nextR
  cases hsg : signOf (c :: t) with
  | some xm =>
    obtain ⟨x, m⟩ := xm
    obtain ⟨s, hs, hp, rfl⟩ := signOf_len _ _ _ hsg
    exact sign_ok hs hp
  | none =>
    dsimp only
    split
    · exact nxErr_ok _ _ _ (by decide) (by simp)
    rename_i n1
    split
    · have hl := wordAt_le t 0 (by omega)
      have hn := nameGo_len (wordAt t 0)
      refine ⟨by dsimp only; rw [List.length_cons]; omega, fun _ => ⟨by dsimp only; omega, by show (1 : Int) ≤ 2; decide, by show (2 : Int) ≤ 11; decide, ?_⟩⟩
      dsimp only
      rw [ba_size]
      omega
    rename_i n2
    split
    · exact hexedG_ok c t
    rename_i n3
    split
    · exact strungG_ok c t
    rename_i n4
    have hz := skipG_zero c t hk
    refine wordedG_ok _ ?_
    rcases byte_case c with h | h | h
    · rw [wordAt_zero, List.takeWhile_cons, if_pos h, List.length_cons]
      omega
    · rw [hz.2] at h; cases h
    · exfalso
      simp only [List.mem_cons, List.mem_nil_iff, or_false] at h
      have h37 : c ≠ 37 := by have := hz.1; rw [beq_eq_false_iff_ne] at this; exact this
      have hs : ¬ (c = 91 ∨ c = 93 ∨ c = 123 ∨ c = 125) := fun h => sign_first t h hsg
      rcases h with h | h | h | h | h | h | h | h | h | h
      · exact n4 h
      · exact n1 (.inl h)
      · exact n3 h
      · exact n1 (.inr h)
      · exact hs (.inl h)
      · exact hs (.inr (.inl h))
      · exact hs (.inr (.inr (.inl h)))
      · exact hs (.inr (.inr (.inr h)))
      · exact n2 h
      · exact h37 h
/-- All tokens of a text that begins at a place; the place and the error. -/
def allG : Nat → Nat → List UInt8 → List S31 × Nat × Int
  | 0, p, r => ([], p + r.length, 0)
  | n + 1, p, r =>
    if skipG false r = r.length then ([], p + r.length, 0)
    else if (nextR (r.drop (skipG false r))).2.2.2.2 = 0 then
      (if (allG n (p + skipG false r + (nextR (r.drop (skipG false r))).2.2.2.1) (r.drop (skipG false r + (nextR (r.drop (skipG false r))).2.2.2.1))).2.2 = 0 then
        ((⟨(nextR (r.drop (skipG false r))).1, ((p + skipG false r : Nat) : Int), (nextR (r.drop (skipG false r))).2.1, (nextR (r.drop (skipG false r))).2.2.1⟩ : S31) :: (allG n (p + skipG false r + (nextR (r.drop (skipG false r))).2.2.2.1) (r.drop (skipG false r + (nextR (r.drop (skipG false r))).2.2.2.1))).1,
          (allG n (p + skipG false r + (nextR (r.drop (skipG false r))).2.2.2.1) (r.drop (skipG false r + (nextR (r.drop (skipG false r))).2.2.2.1))).2)
      else ([], (allG n (p + skipG false r + (nextR (r.drop (skipG false r))).2.2.2.1) (r.drop (skipG false r + (nextR (r.drop (skipG false r))).2.2.2.1))).2))
    else ([], p + skipG false r + (nextR (r.drop (skipG false r))).2.2.2.1, (nextR (r.drop (skipG false r))).2.2.2.2)
theorem drop_skip (r : List UInt8) (h : skipG false r ≠ r.length) : ∃ c t, r.drop (skipG false r) = c :: t ∧ skipG false (c :: t) = 0 ∧ skipG false r + (t.length + 1) = r.length := by
  have hle := skipG_le r false
  have hst := skipG_stable r false
  have hdl : (r.drop (skipG false r)).length = r.length - skipG false r := List.length_drop
  generalize r.drop (skipG false r) = d at hst hdl
  rcases d with _ | ⟨c, t⟩
  · simp only [List.length_nil] at hdl; omega
  · refine ⟨c, t, rfl, hst, ?_⟩
    rw [List.length_cons] at hdl
    omega
/-- One step, spelled by its parts. -/
theorem allG_end (n p : Nat) (r : List UInt8) (h : skipG false r = r.length) : allG n p r = ([], p + r.length, 0) := by
  cases n with
  | zero => rw [allG]
  | succ n => rw [allG, if_pos h]
theorem allG_err (n p : Nat) (r d : List UInt8) (x : NxR) (h : skipG false r ≠ r.length) (hd : r.drop (skipG false r) = d) (hx : nextR d = x) (he : x.2.2.2.2 ≠ 0) : allG (n + 1) p r = ([], p + skipG false r + x.2.2.2.1, x.2.2.2.2) := by
  subst hd; subst hx
  rw [allG, if_neg h, if_neg he]
theorem allG_tok (n p : Nat) (r d : List UInt8) (x : NxR) (y : List S31 × Nat × Int) (h : skipG false r ≠ r.length) (hd : r.drop (skipG false r) = d) (hx : nextR d = x) (he : x.2.2.2.2 = 0)
    (hy : allG n (p + skipG false r + x.2.2.2.1) (d.drop x.2.2.2.1) = y) :
    allG (n + 1) p r = if y.2.2 = 0 then ((⟨x.1, ((p + skipG false r : Nat) : Int), x.2.1, x.2.2.1⟩ : S31) :: y.1, y.2) else ([], y.2) := by
  subst hd; subst hx
  rw [List.drop_drop] at hy
  subst hy
  rw [allG, if_neg h, if_pos he]
theorem nextA_at (s : ByteArray) (i : Nat) (hi : i ≤ s.size) (r : List UInt8) (hr : s.data.toList.drop i = r) :
    nextA s (i : Int) = if skipG false r = r.length then (0, (s.size : Int), 0, ⟨#[]⟩, (s.size : Int), 0) else nxAns (i + skipG false r) (nextR (r.drop (skipG false r))) := by
  have hpl : placeN s (i : Int) = i := by unfold placeN; omega
  have hrl : r.length = s.size - i := by rw [← hr, List.length_drop, ← size_list]
  have hsk : skipN s (i : Int) = i + skipG false r := by unfold skipN; rw [hpl, hr]
  unfold nextA
  rw [hsk, ← List.drop_drop, hr]
  by_cases h : skipG false r = r.length
  · rw [if_pos h, if_pos (by omega)]
  · rw [if_neg h, if_neg (by omega)]
def allOut (acc : List S31) (y : List S31 × Nat × Int) : List S31 × Int × Int := if y.2.2 = 0 then (acc ++ y.1, (y.2.1 : Int), 0) else ([], (y.2.1 : Int), y.2.2)
theorem all_loop (s : ByteArray) (hs : s.size ≤ 60000) : ∀ (n i k : Nat) (acc : List S31), i ≤ s.size → s.size - i < n → n + 2 * s.size + 8 ≤ k → acc.length ≤ i →
    tok_All.l0 k s acc (i : Int) = some (allOut acc (allG n i (s.data.toList.drop i)))
  | 0, i, k, acc => fun _ h => by omega
  | n + 1, i, k, acc => by
    intro hi hn hk ha
    obtain ⟨k, rfl⟩ : ∃ k', k = k' + 1 := ⟨k - 1, by omega⟩
    have ih := all_loop s hs n
    have hdl : (s.data.toList.drop i).length = s.size - i := by rw [List.length_drop, ← size_list]
    have hdd : ∀ m, (s.data.toList.drop i).drop m = s.data.toList.drop (i + m) := fun m => by rw [List.drop_drop]
    generalize hr : s.data.toList.drop i = r at hdl hdd
    rw [tok_All.l0, next_eq s _ (by omega) (by omega), Option.bind_some, nextA_at s i hi r hr]
    by_cases h : skipG false r = r.length
    · rw [if_pos h, allG_end _ _ _ h]
      dsimp only
      rw [if_pos rfl, if_pos rfl]
      unfold allOut
      dsimp only
      rw [if_pos rfl, List.append_nil, hdl, show i + (s.size - i) = s.size by omega]
    rw [if_neg h]
    obtain ⟨c, t, hd, hz, hlen⟩ := drop_skip r h
    have ok := nextR_ok c t hz
    have hdd2 := hdd (skipG false r)
    rw [hd] at hdd2 ⊢
    generalize hx : nextR (c :: t) = x at ok
    have ok1 := ok.1
    rw [List.length_cons] at ok1
    unfold nxAns
    by_cases he : x.2.2.2.2 = 0
    · obtain ⟨o1, o2, o3, o4⟩ := ok.2 he
      rw [if_pos he]
      dsimp only
      have hlast := ih (i + skipG false r + x.2.2.2.1) k (acc ++ [(⟨x.1, ((i + skipG false r : Nat) : Int), x.2.1, x.2.2.1⟩ : S31)]) (by omega) (by omega) (by omega) (by rw [List.length_append, List.length_singleton]; omega)
      have hdx : s.data.toList.drop (i + skipG false r + x.2.2.2.1) = (c :: t).drop x.2.2.2.1 := by rw [hdd2, List.drop_drop]
      rw [if_pos rfl, if_neg (by omega), if_neg (by omega), if_pos (by omega), hlast, hdx]
      rw [allG_tok n i r (c :: t) x _ h hd hx he rfl]
      congr 1
      unfold allOut
      by_cases hy : (allG n (i + skipG false r + x.2.2.2.1) (List.drop x.2.2.2.1 (c :: t))).2.2 = 0
      · rw [if_pos hy, if_pos hy]
        dsimp only
        rw [if_pos hy, List.append_assoc]
        rfl
      · rw [if_neg hy, if_neg hy]
        dsimp only
        rw [if_neg hy]
    · rw [if_neg he, allG_err n i r (c :: t) x h hd hx he]
      dsimp only
      rw [if_neg he]
      unfold allOut
      dsimp only
      rw [if_neg he]
theorem all_eq (s : ByteArray) (hs : s.size ≤ 60000) {k : Nat} (hk : 3 * s.size + 10 ≤ k) : tok_All.f k s = some (allOut [] (allG (s.size + 1) 0 s.data.toList)) := by
  unfold tok_All.f
  have := all_loop s hs (s.size + 1) 0 k [] (by omega) (by omega) (by omega) (by simp)
  rw [List.drop_zero] at this
  exact this
end Go.Proofs.YtfdikkdbmlcjiaaGreatDoor.M
end
section
namespace Go.Proofs.YtfdikkdbmlcjiaaGreatDoor.M
open Go.RowKit Go.Proofs.YtfdikkdbmlcjiaaGreatDoorW.PrintWords
set_option linter.unusedVariables false
/-- The number that the digits spell, behind those that spell acc. -/
def digN (c : UInt8) : Nat := c.toNat - 48
def valD (acc : Nat) (l : List UInt8) : Nat := l.foldl (fun a c => a * 10 + digN c) acc
theorem valD_nil (acc : Nat) : valD acc [] = acc := rfl
theorem valD_cons (acc : Nat) (c : UInt8) (r : List UInt8) : valD acc (c :: r) = valD (acc * 10 + digN c) r := by
  unfold valD; rw [List.foldl_cons]
attribute [irreducible] valD
theorem valD_ge : ∀ (l : List UInt8) (acc : Nat), acc ≤ valD acc l
  | [], acc => Nat.le_of_eq (valD_nil acc).symm
  | c :: r, acc => by
    have := valD_ge r (acc * 10 + digN c)
    rw [valD_cons]; omega
theorem valD_append : ∀ (l m : List UInt8) (acc : Nat), valD acc (l ++ m) = valD (valD acc l) m
  | [], m, acc => by rw [valD_nil]; rfl
  | c :: r, m, acc => by rw [List.cons_append, valD_cons, valD_cons]; exact valD_append r m _
theorem parseUintM_val : ∀ (l : List UInt8) (acc : Nat), acc ≤ 4294967295 → l.all isDigB = true → Lib.parseUintM 4294967295 acc l = if valD acc l ≤ 4294967295 then .ok (valD acc l) else .range
  | [], acc, ha, _ => by rw [valD_nil, if_pos ha, Lib.parseUintM]
  | c :: r, acc, ha, h => by
    simp only [List.all_cons, Bool.and_eq_true] at h
    have h1 := h.1
    simp only [isDigB, Bool.and_eq_true, decide_eq_true_eq] at h1
    rw [Lib.parseUintM, valD_cons, if_pos (by omega), if_neg (by omega)]
    have hd : digN c = c.toNat - 48 := rfl
    rw [← hd]
    by_cases hle : 4294967295 < acc * 10 + digN c
    · have := valD_ge r (acc * 10 + digN c)
      rw [if_pos hle, if_neg (by omega)]
    · rw [if_neg hle]
      exact parseUintM_val r _ (by omega) h.2
theorem parseUintB_val (l : List UInt8) (h0 : l ≠ []) (h : l.all isDigB = true) : Lib.parseUintB 32 l = if valD 0 l ≤ 4294967295 then .ok (valD 0 l) else .range := by
  unfold Lib.parseUintB
  rw [if_neg h0]
  exact parseUintM_val l 0 (by omega) h
theorem whole_digits (l : List UInt8) (h0 : l ≠ []) (h : l.all isDigB = true) : wholeB l = true := by
  match l, h0 with
  | c :: r, _ =>
    have hc : isDigB c = true := by simp only [List.all_cons, Bool.and_eq_true] at h; exact h.1
    have n1 : (c == 43) = false := by rw [beq_eq_false_iff_ne]; rintro rfl; exact absurd hc (by decide)
    have n2 : (c == 45) = false := by rw [beq_eq_false_iff_ne]; rintro rfl; exact absurd hc (by decide)
    have hu : unsign (c :: r) = c :: r := by
      simp only [unsign]
      rw [if_neg (by rw [n1, n2]; decide)]
    unfold wholeB
    rw [hu, h]; rfl
theorem whole_minus (l : List UInt8) (h0 : l ≠ []) (h : l.all isDigB = true) : wholeB (45 :: l) = true := by
  unfold wholeB unsign
  simp only [beq_self_eq_true, Bool.or_true, if_true, h, Bool.and_true]
  cases l with
  | nil => exact absurd rfl h0
  | cons c r => rfl
theorem lexInt_minus (l : List UInt8) (h0 : l ≠ []) (h : l.all isDigB = true) : lexInt (45 :: l) = if valD 0 l ≤ 2147483648 then (-(valD 0 l : Int), 0) else (0, 4) := by
  unfold lexInt
  rw [if_pos (whole_minus l h0 h), Lib.parseIntB_minus, parseUintB_val l h0 h]
  by_cases h1 : valD 0 l ≤ 2147483648
  · rw [if_pos h1, if_pos (by omega)]
    simp only [Lib.signedC]
    rw [if_neg (by omega)]
  · rw [if_neg h1]
    by_cases h2 : valD 0 l ≤ 4294967295
    · rw [if_pos h2]
      simp only [Lib.signedC]
      rw [if_pos (by omega)]
    · rw [if_neg h2]
      rfl
theorem signless_val (l : List UInt8) (h0 : l ≠ []) (h : l.all isDigB = true) : (match Lib.signlessC (2 ^ (32 - 1)) (Lib.parseUintB 32 l) with | .ok v => (v, 0) | _ => (0, 4)) = if valD 0 l ≤ 2147483647 then ((valD 0 l : Int), (0 : Int)) else (0, 4) := by
  rw [parseUintB_val l h0 h]
  by_cases h1 : valD 0 l ≤ 2147483647
  · rw [if_pos h1, if_pos (by omega)]
    simp only [Lib.signlessC]
    rw [if_neg (by omega)]
  · rw [if_neg h1]
    by_cases h2 : valD 0 l ≤ 4294967295
    · rw [if_pos h2]
      simp only [Lib.signlessC]
      rw [if_pos (by omega)]
    · rw [if_neg h2]
      rfl
theorem lexInt_digits (l : List UInt8) (h0 : l ≠ []) (h : l.all isDigB = true) : lexInt l = if valD 0 l ≤ 2147483647 then ((valD 0 l : Int), (0 : Int)) else (0, 4) := by
  have hw := whole_digits l h0 h
  match l, h0 with
  | c :: r, h0 =>
    have hc : isDigB c = true := by simp only [List.all_cons, Bool.and_eq_true] at h; exact h.1
    simp only [isDigB, Bool.and_eq_true, decide_eq_true_eq] at hc
    unfold lexInt
    rw [if_pos hw, Lib.parseIntB_plain 32 c r (by omega) (by omega)]
    exact signless_val (c :: r) h0 h
theorem ba_app (x y : List UInt8) : ((⟨x.toArray⟩ : ByteArray) ++ (⟨y.toArray⟩ : ByteArray)) = ⟨(x ++ y).toArray⟩ := by
  rw [ba_eta (_ ++ _)]; simp
end Go.Proofs.YtfdikkdbmlcjiaaGreatDoor.M
end
section
namespace Go.Proofs.YtfdikkdbmlcjiaaGreatDoor.M
open Go.RowKit Go.Proofs.YtfdikkdbmlcjiaaGreatDoorW.PrintWords
set_option linter.unusedVariables false
set_option linter.unusedSimpArgs false
theorem dig_fin : ∀ d : Fin 10, isDigB (UInt8.ofNat (48 + d.val)) = true ∧ digN (UInt8.ofNat (48 + d.val)) = d.val := by decide
theorem dec_ok (u : Nat) : (Lib.decDigits u).all isDigB = true ∧ Lib.decDigits u ≠ [] ∧ valD 0 (Lib.decDigits u) = u := by
  induction u using Nat.strongRecOn with
  | _ u ih =>
    by_cases h : u < 10
    · have := dig_fin ⟨u, h⟩
      dsimp only at this
      rw [Lib.decDigits, dif_pos h]
      refine ⟨by rw [List.all_cons, this.1]; rfl, by simp, ?_⟩
      rw [valD_cons, valD_nil, this.2]; omega
    · have := dig_fin ⟨u % 10, by omega⟩
      dsimp only at this
      obtain ⟨i1, i2, i3⟩ := ih (u / 10) (by omega)
      rw [Lib.decDigits, dif_neg h]
      refine ⟨by rw [List.all_append, i1, List.all_cons, this.1]; rfl, by simp, ?_⟩
      rw [valD_append, i3, valD_cons, valD_nil, this.2]; omega
theorem lexInt_itoa (n : Int) (h0 : -2147483648 ≤ n) (h1 : n ≤ 2147483647) : lexInt (Lib.itoa n) = (n, 0) := by
  unfold Lib.itoa
  by_cases h : n < 0
  · obtain ⟨d1, d2, d3⟩ := dec_ok n.natAbs
    rw [if_pos h, lexInt_minus _ d2 d1, d3, if_pos (by omega)]
    congr 1; omega
  · obtain ⟨d1, d2, d3⟩ := dec_ok n.toNat
    rw [if_neg h, lexInt_digits _ d2 d1, d3, if_pos (by omega)]
    congr 1; omega
theorem dig_reg_fin : ∀ n : Fin 256, isDigB n.val.toUInt8 = true → isRegB n.val.toUInt8 = true := by decide +kernel
theorem dig_reg (c : UInt8) (h : isDigB c = true) : isRegB c = true := by
  have := dig_reg_fin ⟨c.toNat, c.toNat_lt⟩
  rw [show ((⟨c.toNat, c.toNat_lt⟩ : Fin 256).val.toUInt8) = c from UInt8.ofNat_toNat] at this
  exact this h
theorem itoa_reg (n : Int) : (Lib.itoa n).all isRegB = true ∧ Lib.itoa n ≠ [] := by
  have hd : ∀ l : List UInt8, l.all isDigB = true → l.all isRegB = true := fun l h => List.all_eq_true.2 fun c hc => dig_reg c (List.all_eq_true.1 h c hc)
  unfold Lib.itoa
  split
  · obtain ⟨d1, d2, d3⟩ := dec_ok n.natAbs
    refine ⟨by rw [List.all_cons, hd _ d1]; decide, by simp⟩
  · obtain ⟨d1, d2, d3⟩ := dec_ok n.toNat
    exact ⟨hd _ d1, d2⟩
theorem nDigits_le (k : Nat) : ∀ u : Nat, u < 10 ^ (k + 1) → Lib.nDigits u ≤ k + 1 := by
  induction k with
  | zero => intro u h; rw [Lib.nDigits_small (by simpa using h)]; omega
  | succ k ih =>
    intro u h
    by_cases h1 : u < 10
    · rw [Lib.nDigits_small h1]; omega
    · rw [Lib.nDigits_big h1]
      have := ih (u / 10) (by rw [Nat.pow_succ] at h; omega)
      omega
theorem itoa_len (n : Int) (h0 : -2147483648 ≤ n) (h1 : n ≤ 2147483647) : (Lib.itoa n).length ≤ 11 := by
  unfold Lib.itoa
  split
  · have := nDigits_le 9 n.natAbs (by show _ < 10000000000; omega)
    rw [List.length_cons, Lib.decDigits_length]; omega
  · have := nDigits_le 9 n.toNat (by show _ < 10000000000; omega)
    rw [Lib.decDigits_length]; omega
/-- What may stand behind a token that was written. -/
def Blanky (m : List UInt8) : Prop := m = [] ∨ ∃ b r, m = b :: r ∧ clsOf b.toNat = 1
theorem take_reg (w m : List UInt8) (hw : w.all isRegB = true) (hm : Blanky m) : wordAt (w ++ m) 0 = w := by
  rw [wordAt_zero]
  induction w with
  | nil =>
    rcases hm with rfl | ⟨b, r, rfl, hb⟩
    · rfl
    · rw [List.nil_append, List.takeWhile_cons, if_neg]
      unfold isRegB
      rw [hb]; decide
  | cons c w ih =>
    simp only [List.all_cons, Bool.and_eq_true] at hw
    rw [List.cons_append, List.takeWhile_cons, if_pos hw.1, ih hw.2]
theorem unhG_back : ∀ (l : List UInt8) (acc : List Int), unhG acc none (hexBytes (l.map fun b => (b.toNat : Int))) = (0, acc ++ l.map (fun b => (b.toNat : Int)), [])
  | [], acc => by simp [hexBytes, unhG, rowOf]
  | c :: l, acc => by
    have hb := hex_back ⟨c.toNat, c.toNat_lt⟩
    dsimp only at hb
    have ih := unhG_back l (acc ++ [(c.toNat : Int)])
    rw [List.map_cons]
    unfold hexBytes at ih ⊢
    rw [List.flatMap_cons]
    unfold hexOf
    rw [Int.toNat_natCast]
    show unhG acc none (hexDig (c.toNat / 16) :: hexDig (c.toNat % 16) :: List.flatMap _ _) = _
    rw [unhG, hb.1]
    dsimp only
    rw [unhG, hb.2]
    dsimp only
    have e : ((c.toNat / 16 : Nat) : Int) * 16 + ((c.toNat % 16 : Nat) : Int) = (c.toNat : Int) := by omega
    rw [e]
    unfold hexOf at ih
    rw [ih, List.append_assoc]
    rfl
theorem hexDig_ne : ∀ n : Fin 16, hexDig n.val ≠ 62 ∧ hexDig n.val ≠ 60 := by decide +kernel
theorem hex_no_gt (l : List UInt8) : ∀ c ∈ hexBytes (l.map fun b => (b.toNat : Int)), c ≠ 62 ∧ c ≠ 60 := by
  intro c hc
  unfold hexBytes at hc
  rw [List.mem_flatMap] at hc
  obtain ⟨x, hx, hc⟩ := hc
  rw [List.mem_map] at hx
  obtain ⟨b, _, rfl⟩ := hx
  have := b.toNat_lt
  unfold hexOf at hc
  rw [Int.toNat_natCast] at hc
  simp only [List.mem_cons, List.mem_nil_iff, or_false] at hc
  rcases hc with rfl | rfl
  · exact hexDig_ne ⟨b.toNat / 16, by omega⟩
  · exact hexDig_ne ⟨b.toNat % 16, by omega⟩
theorem take_no (l m : List UInt8) (h : ∀ c ∈ l, c ≠ 62) : (l ++ 62 :: m).takeWhile (fun c => c != 62) = l := by
  induction l with
  | nil => simp
  | cons c l ih =>
    have hc : (c != 62) = true := by rw [bne_iff_ne]; exact h c (by simp)
    rw [List.cons_append, List.takeWhile_cons, if_pos hc, ih (fun d hd => h d (by simp [hd]))]
theorem nums_back (l : List UInt8) : strOfNums (l.map fun b => (b.toNat : Int)) = ⟨l.toArray⟩ := by
  unfold strOfNums
  rw [List.map_map]
  congr 1
  congr 1
  refine List.map_id'' (fun b => ?_) l
  show UInt8.ofNat ((b.toNat : Int).toNat) = b
  rw [Int.toNat_natCast]
  exact UInt8.ofNat_toNat
theorem hexed_back (l m : List UInt8) : hexedG (hexBytes (l.map fun b => (b.toNat : Int)) ++ 62 :: m) = (4, 0, ⟨l.toArray⟩, (hexBytes (l.map fun b => (b.toNat : Int))).length + 2, 0) := by
  have hm : (62 : UInt8) ∈ hexBytes (l.map fun b => (b.toNat : Int)) ++ 62 :: m := by simp
  have hc := cut_gt (hexBytes (l.map fun b => (b.toNat : Int)) ++ 62 :: m)
  rw [if_pos hm, take_no _ _ (fun c hc => (hex_no_gt l c hc).1)] at hc
  unfold hexedG
  rw [hc]
  dsimp only
  rw [if_pos rfl, unhG_back l []]
  dsimp only
  rw [if_pos rfl, List.nil_append, nums_back]
theorem oct_fin : ∀ n : Fin 256, (oct3 n.val.toUInt8).all isOct = true ∧ (octFold 0 (oct3 n.val.toUInt8) % 256).toUInt8 = n.val.toUInt8 := by
  unfold octFold
  decide +kernel
theorem oct_ok (c : UInt8) : (oct3 c).all isOct = true ∧ (octFold 0 (oct3 c) % 256).toUInt8 = c := by
  have := oct_fin ⟨c.toNat, c.toNat_lt⟩
  rw [show ((⟨c.toNat, c.toNat_lt⟩ : Fin 256).val.toUInt8) = c from UInt8.ofNat_toNat] at this
  exact this
theorem take_all {p : UInt8 → Bool} : ∀ {l : List UInt8}, l.all p = true → l.takeWhile p = l
  | [], _ => rfl
  | c :: l, h => by
    rw [List.all_cons, Bool.and_eq_true] at h
    rw [List.takeWhile_cons, if_pos h.1, take_all h.2]
theorem escG_back (c : UInt8) (m : List UInt8) : escG (oct3 c ++ m) = ([c], 3) := by
  have ho := oct_ok c
  have e : octs (oct3 c ++ m) = oct3 c := by
    unfold octs
    have h3 : (oct3 c ++ m).take 3 = oct3 c := by
      rw [List.take_append_of_le_length (by simp [oct3]), List.take_of_length_le (by simp [oct3])]
    rw [h3]
    exact take_all ho.1
  unfold escG
  rw [e, if_pos (by simp [oct3]), ho.2]
  rfl
theorem strG_back : ∀ (l : List UInt8) (n : Nat) (out m : List UInt8), (quoteBytes l).length + 1 ≤ n → strG n 1 out (quoteBytes l ++ 41 :: m) = (0, out ++ l, m)
  | [], n, out, m, hn => by
    obtain ⟨n, rfl⟩ : ∃ n', n = n' + 1 := ⟨n - 1, by omega⟩
    show strG (n + 1) 1 out (41 :: m) = _
    rw [strG, if_neg (by decide), if_pos ⟨rfl, rfl⟩, List.append_nil]
  | c :: l, n, out, m, hn => by
    obtain ⟨n, rfl⟩ : ∃ n', n = n' + 1 := ⟨n - 1, by omega⟩
    have hq : quoteBytes (c :: l) = quoteOf c ++ quoteBytes l := by unfold quoteBytes; rw [List.flatMap_cons]
    rw [hq, List.length_append] at hn
    have hl := quoteOf_length c
    have ih := strG_back l n (out ++ [c]) m (by omega)
    rw [hq, List.append_assoc]
    unfold quoteOf
    by_cases hp : plainQ c = true
    · rw [if_pos hp]
      simp only [plainQ, Bool.and_eq_true, bne_iff_ne, decide_eq_true_eq] at hp
      obtain ⟨⟨⟨⟨q1, q2⟩, q3⟩, q4⟩, q5⟩ := hp
      have h13 : c ≠ 13 := by rintro rfl; exact absurd q4 (by decide)
      show strG (n + 1) 1 out (c :: (quoteBytes l ++ 41 :: m)) = _
      rw [strG, if_neg q3, if_neg (fun e => q2 e.1), if_neg (fun e => q1 e.1)]
      have hz : lineG (c :: (quoteBytes l ++ 41 :: m)) = 0 := by
        unfold lineG
        have h1 : [13, 10].isPrefixOf (c :: (quoteBytes l ++ 41 :: m)) = false := by
          rw [List.isPrefixOf]
          have : ((13 : UInt8) == c) = false := by rw [beq_eq_false_iff_ne]; exact fun e => h13 e.symm
          rw [this, Bool.false_and]
        have h2 : [13].isPrefixOf (c :: (quoteBytes l ++ 41 :: m)) = false := by
          rw [List.isPrefixOf]
          have : ((13 : UInt8) == c) = false := by rw [beq_eq_false_iff_ne]; exact fun e => h13 e.symm
          rw [this, Bool.false_and]
        rw [h1, h2]
        rfl
      have hdp : deepG c 1 = 1 := by unfold deepG; rw [if_neg q2, if_neg q1]
      rw [hz, if_neg (by omega), hdp, ih, List.append_assoc]
      rfl
    · rw [if_neg hp]
      show strG (n + 1) 1 out (92 :: (oct3 c ++ (quoteBytes l ++ 41 :: m))) = _
      rw [strG, if_pos rfl, escG_back]
      dsimp only
      rw [if_neg (by decide)]
      have hd : (oct3 c ++ (quoteBytes l ++ 41 :: m)).drop 3 = quoteBytes l ++ 41 :: m := rfl
      rw [hd, ih, List.append_assoc]
      rfl
theorem strung_back (l m : List UInt8) : strungG (quoteBytes l ++ 41 :: m) = (5, 0, ⟨l.toArray⟩, (quoteBytes l).length + 2, 0) := by
  unfold strungG
  rw [strG_back l _ [] m (by rw [List.length_append]; omega)]
  dsimp only
  rw [if_pos rfl, List.nil_append, List.length_append, List.length_cons, show (quoteBytes l).length + (m.length + 1) + 1 - m.length = (quoteBytes l).length + 2 by omega]
/-- A token, written. -/
def showG (kind n : Int) (s : ByteArray) : List UInt8 :=
  if kind = 1 then Lib.itoa n else if kind = 2 then 47 :: writeBytes s.data.toList else if kind = 3 then s.data.toList
  else if kind = 4 then 60 :: (hexBytes (bytesOf s) ++ [62]) else if kind = 5 then 40 :: (quoteBytes s.data.toList ++ [41]) else signText kind
/-- A token that may be read. -/
def OkTok (kind n : Int) (s : ByteArray) : Prop :=
  (kind = 1 ∧ -2147483648 ≤ n ∧ n ≤ 2147483647 ∧ s = ⟨#[]⟩) ∨ (kind = 2 ∧ n = 0) ∨ (kind = 3 ∧ n = 0 ∧ s.data.toList ≠ [] ∧ s.data.toList.all isRegB = true ∧ (lexInt s.data.toList).2 = 3) ∨
  (kind = 4 ∧ n = 0) ∨ (kind = 5 ∧ n = 0) ∨ ((∃ t, isSign kind t) ∧ n = 0 ∧ s = ⟨#[]⟩)
theorem nextR_sign (r : List UInt8) (x : Int) (m : Nat) (h : signOf r = some (x, m)) : nextR r = (x, 0, ⟨#[]⟩, m, 0) := by unfold nextR; rw [h]
theorem nextR_cons (c : UInt8) (t : List UInt8) (h : signOf (c :: t) = none) : nextR (c :: t) = if c = 41 ∨ c = 62 then nxErr 0 3
      else if c = 47 then (2, 0, ⟨(nameGo (wordAt t 0)).toArray⟩, 1 + (wordAt t 0).length, 0)
      else if c = 60 then hexedG t
      else if c = 40 then strungG t
      else wordedG (c :: t) := by unfold nextR; rw [h]
theorem pre_one (a c : UInt8) (t : List UInt8) (h : c ≠ a) : [a].isPrefixOf (c :: t) = false := by
  rw [List.isPrefixOf]
  have : (a == c) = false := by rw [beq_eq_false_iff_ne]; exact fun e => h e.symm
  rw [this, Bool.false_and]
theorem pre_two (a b c : UInt8) (t : List UInt8) (h : c ≠ a) : [a, b].isPrefixOf (c :: t) = false := by
  rw [List.isPrefixOf]
  have : (a == c) = false := by rw [beq_eq_false_iff_ne]; exact fun e => h e.symm
  rw [this, Bool.false_and]
theorem no_sign (c : UInt8) (t : List UInt8) (h : c ∉ ([60, 62, 91, 93, 123, 125] : List UInt8)) : signOf (c :: t) = none := by
  simp only [List.mem_cons, List.mem_nil_iff, or_false, not_or] at h
  obtain ⟨h1, h2, h3, h4, h5, h6⟩ := h
  unfold signOf
  rw [pre_one 91 c t h3, pre_one 93 c t h4, pre_two 60 60 c t h1, pre_two 62 62 c t h2, pre_one 123 c t h5, pre_one 125 c t h6]
  rfl
theorem no_sign_lt (d : UInt8) (t : List UInt8) (h : d ≠ 60) : signOf (60 :: d :: t) = none := by
  unfold signOf
  have e : [60, 60].isPrefixOf (60 :: d :: t) = false := by
    rw [List.isPrefixOf, pre_one 60 d t h, Bool.and_false]
  rw [pre_one 91 60 _ (by decide), pre_one 93 60 _ (by decide), e, pre_two 62 62 60 _ (by decide), pre_one 123 60 _ (by decide), pre_one 125 60 _ (by decide)]
  rfl
theorem reg_not : ∀ n : Fin 256, isRegB n.val.toUInt8 = true → n.val.toUInt8 ∉ ([60, 62, 91, 93, 123, 125] : List UInt8) ∧ n.val.toUInt8 ∉ ([40, 41, 47, 37] : List UInt8) ∧ (clsOf (n.val.toUInt8).toNat == 1) = false := by decide +kernel
theorem reg_not' (c : UInt8) (h : isRegB c = true) : c ∉ ([60, 62, 91, 93, 123, 125] : List UInt8) ∧ c ∉ ([40, 41, 47, 37] : List UInt8) ∧ (clsOf c.toNat == 1) = false := by
  have := reg_not ⟨c.toNat, c.toNat_lt⟩
  rw [show ((⟨c.toNat, c.toNat_lt⟩ : Fin 256).val.toUInt8) = c from UInt8.ofNat_toNat] at this
  exact this h
theorem nextR_word (w m : List UInt8) (h0 : w ≠ []) (hw : w.all isRegB = true) (hm : Blanky m) : nextR (w ++ m) = wordedG (w ++ m) := by
  rcases w with _ | ⟨c, w⟩
  · exact absurd rfl h0
  have hc : isRegB c = true := by simp only [List.all_cons, Bool.and_eq_true] at hw; exact hw.1
  obtain ⟨r1, r2, r3⟩ := reg_not' c hc
  simp only [List.mem_cons, List.mem_nil_iff, or_false, not_or] at r2
  have r62 : c ≠ 62 := fun e => r1 (by rw [e]; simp)
  have r60 : c ≠ 60 := fun e => r1 (by rw [e]; simp)
  rw [List.cons_append, nextR_cons c _ (no_sign c _ r1), if_neg (fun e => e.elim r2.2.1 r62), if_neg r2.2.2.1, if_neg r60, if_neg r2.1]
theorem skip_zero (c : UInt8) (t : List UInt8) (h1 : c ≠ 37) (h2 : (clsOf c.toNat == 1) = false) : skipG false (c :: t) = 0 := by
  rw [skipG, if_neg (by rw [beq_iff_eq]; exact h1), if_neg (by rw [h2]; decide)]
theorem skip_reg (w m : List UInt8) (h0 : w ≠ []) (hw : w.all isRegB = true) : skipG false (w ++ m) = 0 := by
  rcases w with _ | ⟨c, w⟩
  · exact absurd rfl h0
  have hc : isRegB c = true := by simp only [List.all_cons, Bool.and_eq_true] at hw; exact hw.1
  obtain ⟨r1, r2, r3⟩ := reg_not' c hc
  exact skip_zero c _ (fun e => r2 (by rw [e]; simp)) r3
theorem signText_eq {x : Int} {t : List UInt8} (h : isSign x t) : signText x = t ∧ x ≠ 1 ∧ x ≠ 2 ∧ x ≠ 3 ∧ x ≠ 4 ∧ x ≠ 5 := by
  rcases h with ⟨rfl, rfl⟩ | ⟨rfl, rfl⟩ | ⟨rfl, rfl⟩ | ⟨rfl, rfl⟩ | ⟨rfl, rfl⟩ | ⟨rfl, rfl⟩ <;> exact ⟨rfl, by decide, by decide, by decide, by decide, by decide⟩
/-- What is shown of a token is read as it. -/
theorem show_next (kind n : Int) (s : ByteArray) (h : OkTok kind n s) (m : List UInt8) (hm : Blanky m) :
    showG kind n s ≠ [] ∧ skipG false (showG kind n s ++ m) = 0 ∧ nextR (showG kind n s ++ m) = (kind, n, s, (showG kind n s).length, 0) := by
  rcases h with ⟨rfl, h0, h1, rfl⟩ | ⟨rfl, rfl⟩ | ⟨rfl, rfl, h0, hw, h3⟩ | ⟨rfl, rfl⟩ | ⟨rfl, rfl⟩ | ⟨⟨t, ht⟩, rfl, rfl⟩
  · have e : showG 1 n ⟨#[]⟩ = Lib.itoa n := by unfold showG; rw [if_pos rfl]
    obtain ⟨r1, r2⟩ := itoa_reg n
    rw [e]
    refine ⟨r2, skip_reg _ _ r2 r1, ?_⟩
    rw [nextR_word _ _ r2 r1 hm]
    unfold wordedG
    rw [take_reg _ _ r1 hm, lexInt_itoa n h0 h1, if_pos rfl]
  · have e : showG 2 0 s = 47 :: writeBytes s.data.toList := by unfold showG; rw [if_neg (by decide), if_pos rfl]
    have hr : (writeBytes s.data.toList).all isRegB = true := by
      refine List.all_eq_true.2 fun c hc => ?_
      have := List.all_eq_true.1 (writeBytes_ok s.data.toList) c hc
      simp only [Bool.and_eq_true] at this
      exact this.2
    rw [e, List.cons_append]
    refine ⟨by simp, skip_zero _ _ (by decide) (by decide), ?_⟩
    rw [nextR_cons _ _ (no_sign _ _ (by decide)), if_neg (by decide), if_pos rfl, take_reg _ _ hr hm, name_write, ← ba_eta, List.length_cons, Nat.add_comm]
  · have e : showG 3 0 s = s.data.toList := by unfold showG; rw [if_neg (by decide), if_neg (by decide), if_pos rfl]
    rw [e]
    refine ⟨h0, skip_reg _ _ h0 hw, ?_⟩
    rw [nextR_word _ _ h0 hw hm]
    unfold wordedG
    rw [take_reg _ _ hw hm, h3, if_neg (by decide), if_pos rfl, ← ba_eta]
  · have e : showG 4 0 s = 60 :: (hexBytes (bytesOf s) ++ [62]) := by unfold showG; rw [if_neg (by decide), if_neg (by decide), if_neg (by decide), if_pos rfl]
    rw [e, List.cons_append]
    refine ⟨by simp, skip_zero _ _ (by decide) (by decide), ?_⟩
    have hs : signOf (60 :: (hexBytes (bytesOf s) ++ [62] ++ m)) = none := by
      have hh : ∃ d t, hexBytes (bytesOf s) ++ [62] ++ m = d :: t ∧ d ≠ 60 := by
        have hne := hex_no_gt s.data.toList
        unfold bytesOf
        generalize hexBytes (s.data.toList.map fun b => (b.toNat : Int)) = l at hne
        rcases l with _ | ⟨d, l⟩
        · exact ⟨62, m, rfl, by decide⟩
        · exact ⟨d, l ++ [62] ++ m, rfl, (hne d (by simp)).2⟩
      obtain ⟨d, t, ht, hd⟩ := hh
      rw [ht]
      exact no_sign_lt d t hd
    rw [nextR_cons _ _ hs, if_neg (by decide), if_neg (by decide), if_pos rfl, List.append_assoc]
    unfold bytesOf
    show hexedG (_ ++ 62 :: m) = _
    rw [hexed_back, ← ba_eta, List.length_cons, List.length_append, List.length_singleton]
  · have e : showG 5 0 s = 40 :: (quoteBytes s.data.toList ++ [41]) := by unfold showG; rw [if_neg (by decide), if_neg (by decide), if_neg (by decide), if_neg (by decide), if_pos rfl]
    rw [e, List.cons_append]
    refine ⟨by simp, skip_zero _ _ (by decide) (by decide), ?_⟩
    rw [nextR_cons _ _ (no_sign _ _ (by decide)), if_neg (by decide), if_neg (by decide), if_neg (by decide), if_pos rfl, List.append_assoc]
    show strungG (_ ++ 41 :: m) = _
    rw [strung_back, ← ba_eta, List.length_cons, List.length_append, List.length_singleton]
  · obtain ⟨e1, n1, n2, n3, n4, n5⟩ := signText_eq ht
    have e : showG kind 0 ⟨#[]⟩ = t := by unfold showG; rw [if_neg n1, if_neg n2, if_neg n3, if_neg n4, if_neg n5, e1]
    rw [e]
    have hp : t.isPrefixOf (t ++ m) = true := List.isPrefixOf_iff_prefix.2 (List.prefix_append t m)
    refine ⟨?_, ?_, ?_⟩
    · rcases ht with ⟨rfl, rfl⟩ | ⟨rfl, rfl⟩ | ⟨rfl, rfl⟩ | ⟨rfl, rfl⟩ | ⟨rfl, rfl⟩ | ⟨rfl, rfl⟩ <;> simp
    · rcases ht with ⟨rfl, rfl⟩ | ⟨rfl, rfl⟩ | ⟨rfl, rfl⟩ | ⟨rfl, rfl⟩ | ⟨rfl, rfl⟩ | ⟨rfl, rfl⟩ <;> exact skip_zero _ _ (by decide) (by decide)
    · rw [nextR_sign _ _ _ (signOf_hit ht hp)]
end Go.Proofs.YtfdikkdbmlcjiaaGreatDoor.M
end
section
namespace Go.Proofs.YtfdikkdbmlcjiaaGreatDoor.M
open Go.RowKit Go.Proofs.YtfdikkdbmlcjiaaGreatDoorW.PrintWords
set_option linter.unusedVariables false
set_option linter.unusedSimpArgs false
theorem awake4_at : hornbooklaw04_awake.f 60 = some true := by decide +kernel
theorem awake4 {k : Nat} (hk : 60 ≤ k) : hornbooklaw04_awake.f k = some true := le_rounds (g := fun k => hornbooklaw04_awake.f k) (fun k => hornbooklaw04_awake.mono k) awake4_at hk
def showT (t : S31) : List UInt8 := showG t.f0 t.f2 t.f3
def OkT (t : S31) : Prop := OkTok t.f0 t.f2 t.f3
theorem all_bytes (s : ByteArray) : (bytesOf s).all isByte = true := by
  unfold bytesOf
  rw [List.all_map]
  refine List.all_eq_true.2 fun b _ => ?_
  have := b.toNat_lt
  simp only [Function.comp, isByte, Bool.and_eq_true, decide_eq_true_eq]
  omega
theorem show_eq (kind at_ n : Int) (s : ByteArray) (h : OkTok kind n s) (hs : s.size ≤ 1000000) : tok_Show.f kind at_ n s = some ⟨(showG kind n s).toArray⟩ := by
  have one : ∀ (c : UInt8) (l : List UInt8), (⟨#[c]⟩ : ByteArray) ++ ⟨l.toArray⟩ = ⟨(c :: l).toArray⟩ := fun c l => ba_app [c] l
  unfold tok_Show.f showG
  rcases h with ⟨rfl, h0, h1, rfl⟩ | ⟨rfl, rfl⟩ | ⟨rfl, rfl, h0, hw, h3⟩ | ⟨rfl, rfl⟩ | ⟨rfl, rfl⟩ | ⟨⟨t, ht⟩, rfl, rfl⟩
  · rw [if_pos rfl, if_pos rfl]
    unfold strconv_Itoa.f
    rw [if_pos (by omega)]
  · rw [if_neg (by decide), if_pos rfl, if_neg (by decide), if_pos rfl]
    unfold lex_Write.f
    rw [if_pos (by omega), Option.bind_some, one]
  · rw [if_neg (by decide), if_neg (by decide), if_pos rfl, if_neg (by decide), if_neg (by decide), if_pos rfl, ← ba_eta]
  · rw [if_neg (by decide), if_neg (by decide), if_neg (by decide), if_pos rfl, if_neg (by decide), if_neg (by decide), if_neg (by decide), if_pos rfl]
    unfold hex_Hex.f
    rw [if_pos (all_bytes s), if_pos (by rw [bytesOf_length]; omega), Option.bind_some, one]
    exact congrArg some (ba_app (60 :: hexBytes (bytesOf s)) [62])
  · rw [if_neg (by decide), if_neg (by decide), if_neg (by decide), if_neg (by decide), if_pos rfl, if_neg (by decide), if_neg (by decide), if_neg (by decide), if_neg (by decide), if_pos rfl]
    unfold tok_quoted.f
    rw [if_pos (by omega), Option.bind_some, one]
    exact congrArg some (ba_app (40 :: quoteBytes s.data.toList) [41])
  · obtain ⟨e1, n1, n2, n3, n4, n5⟩ := signText_eq ht
    rw [if_neg n1, if_neg n2, if_neg n3, if_neg n4, if_neg n5, if_neg n1, if_neg n2, if_neg n3, if_neg n4, if_neg n5, if_pos]
    rcases ht with ⟨rfl, rfl⟩ | ⟨rfl, rfl⟩ | ⟨rfl, rfl⟩ | ⟨rfl, rfl⟩ | ⟨rfl, rfl⟩ | ⟨rfl, rfl⟩ <;> decide
theorem hexBytes_bytes (s : ByteArray) : (hexBytes (bytesOf s)).length = 2 * s.size := by rw [hexBytes_length, bytesOf_length]
theorem show_len (kind n : Int) (s : ByteArray) (h : OkTok kind n s) : (showG kind n s).length ≤ 4 * s.size + 11 := by
  unfold showG
  rcases h with ⟨rfl, h0, h1, rfl⟩ | ⟨rfl, rfl⟩ | ⟨rfl, rfl, h0, hw, h3⟩ | ⟨rfl, rfl⟩ | ⟨rfl, rfl⟩ | ⟨⟨t, ht⟩, rfl, rfl⟩
  · rw [if_pos rfl]
    have := itoa_len n h0 h1
    omega
  · rw [if_neg (by decide), if_pos rfl, List.length_cons]
    have := writeBytes_length s.data.toList
    rw [← size_list] at this
    omega
  · rw [if_neg (by decide), if_neg (by decide), if_pos rfl, ← size_list]; omega
  · rw [if_neg (by decide), if_neg (by decide), if_neg (by decide), if_pos rfl, List.length_cons, List.length_append, List.length_singleton, hexBytes_bytes]; omega
  · rw [if_neg (by decide), if_neg (by decide), if_neg (by decide), if_neg (by decide), if_pos rfl, List.length_cons, List.length_append, List.length_singleton]
    have := quoteBytes_length s.data.toList
    rw [← size_list] at this
    omega
  · obtain ⟨e1, n1, n2, n3, n4, n5⟩ := signText_eq ht
    rw [if_neg n1, if_neg n2, if_neg n3, if_neg n4, if_neg n5, e1]
    rcases ht with ⟨rfl, rfl⟩ | ⟨rfl, rfl⟩ | ⟨rfl, rfl⟩ | ⟨rfl, rfl⟩ | ⟨rfl, rfl⟩ | ⟨rfl, rfl⟩ <;> simp
def keyT (t : S31) : Int × Int × ByteArray := (t.f0, t.f2, t.f3)
/-- One token that is written, with something that is skipped ahead of it, is read. -/
theorem allG_step (t : S31) (ht : OkT t) (sp m : List UInt8) (hsp : ∀ r, skipG false (sp ++ r) = sp.length + skipG false r) (hm : Blanky m) (n p : Nat) :
    allG (n + 1) p (sp ++ (showT t ++ m)) = (let y := allG n (p + sp.length + (showT t).length) m
      if y.2.2 = 0 then ((⟨t.f0, ((p + sp.length : Nat) : Int), t.f2, t.f3⟩ : S31) :: y.1, y.2) else ([], y.2)) := by
  obtain ⟨h0, h1, h2⟩ := show_next t.f0 t.f2 t.f3 ht m hm
  have hsk : skipG false (sp ++ (showT t ++ m)) = sp.length := by rw [hsp]; unfold showT; rw [h1, Nat.add_zero]
  have hne : 1 ≤ (showT t).length := by
    rcases hh : showT t with _ | ⟨c, r⟩
    · exact absurd hh h0
    · rw [List.length_cons]; omega
  have hd : (sp ++ (showT t ++ m)).drop (skipG false (sp ++ (showT t ++ m))) = showT t ++ m := by rw [hsk, List.drop_left]
  have hd2 : (showT t ++ m).drop (showT t).length = m := List.drop_left
  have := allG_tok n p (sp ++ (showT t ++ m)) (showT t ++ m) _ (allG n (p + sp.length + (showT t).length) m) (by rw [hsk, List.length_append, List.length_append]; omega) hd h2 rfl (by
    dsimp only
    rw [hsk]
    show allG n _ ((showT t ++ m).drop (showT t).length) = _
    rw [hd2]
    rfl)
  rw [this, hsk]
end Go.Proofs.YtfdikkdbmlcjiaaGreatDoor.M
end
section
/- Laid by this session's program hbprint.py out of the translation: the function hornbook/hornbooklaw04.TokBack and its contract. -/
namespace Go.Proofs.YtfdikkdbmlcjiaaGreatDoor.M
open Go.RowKit Go.Proofs.YtfdikkdbmlcjiaaGreatDoorW.PrintWords Go.Proofs.YtfdikkdbmlcjiaaGreatDoorW.PrintLast Go.Proofs.YtfdikkdbmlcjiaaGreatDoorW.PrintMore
attribute [local go_sem] max2_int min2_int max_two min_two max_three min_three max_four min_four
set_option linter.unusedVariables false
set_option linter.unusedSimpArgs false
end Go.Proofs.YtfdikkdbmlcjiaaGreatDoor.M
end
section
namespace Go.Proofs.YtfdikkdbmlcjiaaGreatDoor.M
open Go.RowKit Go.Proofs.YtfdikkdbmlcjiaaGreatDoorW.PrintWords
set_option linter.unusedVariables false
set_option linter.unusedSimpArgs false
theorem rd_at (l : List S31) (i : Nat) (h : i < l.length) : rd_T31 l (i : Int) = l[i] := by
  unfold rd_T31
  rw [Int.toNat_natCast, List.getD_eq_getElem?_getD, List.getElem?_eq_getElem h]
  rfl
theorem alike_loop (l m : List S31) (h : m.map keyT = l.map keyT) (hn : l.length ≤ 60000) (d : Nat) : ∀ (i k : Nat), l.length - i = d → i ≤ l.length → d + 1 ≤ k → hornbookref04_Alike.l0 k l m (i : Int) = some true := by
  have hlen : m.length = l.length := by
    have := congrArg List.length h
    rwa [List.length_map, List.length_map] at this
  induction d with
  | zero =>
    intro i k hd hi hk
    obtain ⟨k, rfl⟩ : ∃ k', k = k' + 1 := ⟨k - 1, by omega⟩
    rw [hornbookref04_Alike.l0, if_neg (by omega)]
  | succ d ih =>
    intro i k hd hi hk
    obtain ⟨k, rfl⟩ : ∃ k', k = k' + 1 := ⟨k - 1, by omega⟩
    have hlt : i < l.length := by omega
    have hk2 : keyT (m[i]'(by omega)) = keyT l[i] := by
      have h1 : (m.map keyT)[i]'(by rw [List.length_map]; omega) = (l.map keyT)[i]'(by rw [List.length_map]; omega) := by
        congr 1
      rwa [List.getElem_map, List.getElem_map] at h1
    unfold keyT at hk2
    injection hk2 with e1 hk2
    injection hk2 with e2 e3
    rw [hornbookref04_Alike.l0, if_pos (by omega), if_pos (by omega), if_pos (by omega), rd_at l i hlt, rd_at m i (by omega), if_pos e1.symm, if_pos e2.symm, if_pos (by rw [e3]), wrap_small (by omega) (by omega)]
    have := ih (i + 1) k (by omega) (by omega) (by omega)
    rw [show (i : Int) + 1 = ((i + 1 : Nat) : Int) by omega]
    exact this
theorem alike_eq (l m : List S31) (h : m.map keyT = l.map keyT) (hn : l.length ≤ 60000) {k : Nat} (hk : l.length + 1 ≤ k) : hornbookref04_Alike.f k l m = some true := by
  have hlen : m.length = l.length := by
    have := congrArg List.length h
    rwa [List.length_map, List.length_map] at this
  unfold hornbookref04_Alike.f
  rw [if_pos (by omega)]
  exact alike_loop l m h hn l.length 0 k (by omega) (by omega) hk
end Go.Proofs.YtfdikkdbmlcjiaaGreatDoor.M
end
section
namespace Go.Proofs.YtfdikkdbmlcjiaaGreatDoor.M
open Go.RowKit Go.Proofs.YtfdikkdbmlcjiaaGreatDoorW.PrintWords
set_option linter.unusedVariables false
set_option linter.unusedSimpArgs false
theorem skip_remark (r : List UInt8) : skipG false ([32, 37, 32, 120, 10, 32] ++ r) = ([32, 37, 32, 120, 10, 32] : List UInt8).length + skipG false r := by
  have n32 : (!isNL 32) = true := by decide
  have n120 : (!isNL 120) = true := by decide
  have n10 : (!isNL 10) = false := by decide
  have n37 : (!isNL 37) = true := by decide
  show skipG false (32 :: 37 :: 32 :: 120 :: 10 :: 32 :: r) = 6 + skipG false r
  rw [skipG, if_neg (by decide), if_pos (by decide), skipG, if_pos (by decide), skipG, n32, skipG, n120, skipG, n10, skipG, if_neg (by decide), if_pos (by decide)]
  omega
theorem kinds_core (kind n : Int) (s : ByteArray) (h : OkTok kind n s) (hs : s.size ≤ 200) (k : Nat) (hk : 100000 ≤ k) :
    ((tok_Show.f kind 0 n s).bind fun t => (if 6 + t.size ≤ 9223372036854775807 then (if ((⟨#[32, 37, 32, 120, 10, 32]⟩ : ByteArray) ++ t).size + 2 ≤ 9223372036854775807 then ((tok_All.f k (((⟨#[32, 37, 32, 120, 10, 32]⟩ : ByteArray) ++ t) ++ (⟨#[32, 37]⟩ : ByteArray))).bind fun bt => (if true = true then (if bt.2.2 = 0 then ((hornbookref04_Alike.f k bt.1 (([(⟨kind, 0, n, s⟩ : S31)] : List (S31)))).bind fun t2 => (some t2)) else (some false)) else (some false))) else (none)) else (none))) = some true := by
  have hl := show_len kind n s h
  have hsz := ba_size (showG kind n s)
  have h6 : ((⟨#[32, 37, 32, 120, 10, 32]⟩ : ByteArray) ++ ⟨(showG kind n s).toArray⟩).size = 6 + (showG kind n s).length := by rw [ByteArray.size_append, hsz]; rfl
  have hx : ((⟨#[32, 37, 32, 120, 10, 32]⟩ : ByteArray) ++ ⟨(showG kind n s).toArray⟩) ++ (⟨#[32, 37]⟩ : ByteArray) = ⟨([32, 37, 32, 120, 10, 32] ++ (showG kind n s ++ [32, 37])).toArray⟩ := by
    rw [ba_eta (_ ++ _)]
    simp
  have hxs := ba_size ([32, 37, 32, 120, 10, 32] ++ (showG kind n s ++ [32, 37]))
  rw [List.length_append, List.length_append, show ([32, 37, 32, 120, 10, 32] : List UInt8).length = 6 from rfl, show ([32, 37] : List UInt8).length = 2 from rfl] at hxs
  rw [show_eq kind 0 n s h (by omega), Option.bind_some, if_pos (by omega), if_pos (by omega), hx, all_eq _ (by omega) (by omega), Option.bind_some, ba_list, hxs]
  have hst := allG_step ⟨kind, 0, n, s⟩ h [32, 37, 32, 120, 10, 32] [32, 37] skip_remark (.inr ⟨32, [37], rfl, by decide⟩) (6 + ((showG kind n s).length + 2)) 0
  rw [allG_end _ _ [32, 37] (by decide)] at hst
  dsimp only at hst
  rw [if_pos rfl] at hst
  unfold showT at hst
  dsimp only at hst
  rw [hst]
  have ho : ∀ (l : List S31) (p : Nat), allOut [] (l, p, 0) = (l, (p : Int), 0) := fun l p => by unfold allOut; rw [if_pos rfl, List.nil_append]
  rw [ho]
  dsimp only
  rw [if_pos rfl, if_pos rfl, alike_eq _ _ (by rfl) (by simp) (by simp; omega), Option.bind_some]
theorem TokKinds : hornbooklaw04_TokKinds.Pure := by
  intro a0 a1 l2 w0 w1 h0 h1 hb
  obtain ⟨k, hk⟩ : ∃ k : Nat, 100000 ≤ k := ⟨100000, Nat.le_refl _⟩
  refine ⟨k + 2, ?_⟩
  unfold hornbooklaw04_TokKinds.f
  rw [awake4 (by omega), Option.bind_some]
  by_cases hs : (l2.length : Int) > 200
  · rw [if_pos hs]
  rw [if_neg hs]
  have hsz := str_nums_size l2
  have hm1 := and_mask a0 16 (by decide) 65535 (by decide)
  have hm2 := and_mask a1 32 (by decide) 4294967295 (by decide)
  rw [hm1, hm2]
  obtain ⟨kd, hkd⟩ : ∃ kd : Int, Int.tmod (a0 % 2 ^ 16) 12 = kd := ⟨_, rfl⟩
  have hr : 0 ≤ kd ∧ kd < 12 := by
    rw [← hkd, Int.tmod_eq_emod_of_nonneg (by omega)]
    omega
  have hn : wrap64 (a1 % 2 ^ 32 - 2147483648) = a1 % 2 ^ 32 - 2147483648 := by unfold wrap64; omega
  rw [hkd, hn]
  clear hkd hm1 hm2 hn
  have hN : -2147483648 ≤ a1 % 2 ^ 32 - 2147483648 ∧ a1 % 2 ^ 32 - 2147483648 ≤ 2147483647 := by omega
  generalize a1 % 2 ^ 32 - 2147483648 = n at hN
  by_cases k1 : kd = 1
  · subst k1
    rw [if_pos rfl]
    exact kinds_core 1 n ⟨#[]⟩ (.inl ⟨rfl, hN.1, hN.2, rfl⟩) (by decide) (k + 2) (by omega)
  rw [if_neg k1]
  have str : ∀ kd : Int, OkTok kd 0 (strOfNums l2) → hornbooklaw04_TokKinds.j0 (k + 2) l2 true kd true kd 0 0 ⟨#[]⟩ = some true := by
    intro kd ok
    rw [hornbooklaw04_TokKinds.j0, if_pos rfl]
    exact kinds_core kd 0 (strOfNums l2) ok (by omega) (k + 1) (by omega)
  by_cases k2 : kd = 2
  · subst k2
    rw [if_pos rfl]
    exact str 2 (.inr (.inl ⟨rfl, rfl⟩))
  rw [if_neg k2]
  by_cases k4 : kd = 4
  · subst k4
    rw [if_pos rfl]
    exact str 4 (.inr (.inr (.inr (.inl ⟨rfl, rfl⟩))))
  rw [if_neg k4]
  by_cases k5 : kd = 5
  · subst k5
    exact str 5 (.inr (.inr (.inr (.inr (.inl ⟨rfl, rfl⟩)))))
  rw [show (kd == 5) = false from beq_eq_false_iff_ne.2 k5, hornbooklaw04_TokKinds.j0, if_neg (by decide)]
  by_cases k3 : kd = 3
  · subst k3
    rw [if_pos rfl, hornbooklaw04_TokKinds.j1, if_pos (by decide)]
  rw [if_neg k3]
  by_cases k0 : kd = 0
  · subst k0
    rw [hornbooklaw04_TokKinds.j1, if_pos (by decide)]
  rw [show (kd == 0) = false from beq_eq_false_iff_ne.2 k0, hornbooklaw04_TokKinds.j1, if_neg (by decide)]
  have hsg : ∃ t, isSign kd t := by
    have : kd = 6 ∨ kd = 7 ∨ kd = 8 ∨ kd = 9 ∨ kd = 10 ∨ kd = 11 := by omega
    rcases this with rfl | rfl | rfl | rfl | rfl | rfl
    · exact ⟨[91], by simp [isSign]⟩
    · exact ⟨[93], by simp [isSign]⟩
    · exact ⟨[60, 60], by simp [isSign]⟩
    · exact ⟨[62, 62], by simp [isSign]⟩
    · exact ⟨[123], by simp [isSign]⟩
    · exact ⟨[125], by simp [isSign]⟩
  exact kinds_core kd 0 ⟨#[]⟩ (.inr (.inr (.inr (.inr (.inr ⟨hsg, rfl, rfl⟩))))) (by decide) k (by omega)
end Go.Proofs.YtfdikkdbmlcjiaaGreatDoor.M
end
section
-- PRINTED BY print.sh 35421559b90ae4d0a3588c463048766b98c2df88dd9212a6774a882060cdf62d: not written by this session
-- PRINTED WORDS (module Derived/Print/Sized.lean): go-gate-2's, for the rows of laws over slices: an AI agent of Go's test side, Tue Nov 17 2026; no person has read it. Lean checks it.
namespace Go.Proofs.YtfdikkdbmlcjiaaGreatDoorW.PrintWords
open Go.ChangeShapes Go.WideShapes
/-- A row's slice of whole numbers is no longer than its weight allows. -/
theorem sized_ints {H : Type} {enc : TypeId × Value → H} {P : Program} {W : World} {base : Nat} {spare : Nat → Bool} {held : Bool} {t e : TypeId} {k : IntKind} {a : Option Addr} {len cap : Nat} {d : DataW H} {ps : List MemPlace} {ts : List TypeId} {ds : List (DataW H)} {j : Nat}
    (hsz : (DataW.weightsEach P ts ds).all (· ≤ reachBytes) = true) (ht : ts[j]? = some t) (hd : ds[j]? = some d) (hu : P.underlying t = some (.slice e)) (he : P.underlying e = some (.int k)) (hc : P.cellsOf e = 1) {B : Nat} (hB : P.bytesOf e = B)
    (h : DataW.Trod enc P W base spare held t (.slice a len cap) d ps) : len * B ≤ 140737488351232 := by
  obtain ⟨fuel, hf⟩ := h
  rcases open_ints hu he hc hf with ⟨hcs, _⟩ | ⟨x, l, c, zs, hcs, _, hl, _, hz, hx, _, _⟩
  · simp [Value.cells] at hcs
    obtain ⟨rfl, rfl, rfl⟩ := hcs
    simp
  · simp [Value.cells] at hcs
    obtain ⟨rfl, rfl, rfl⟩ := hcs
    obtain ⟨hx, _⟩ := Prod.mk.inj hx
    subst hx
    have z := sized_slice hsz ht hd hu
    rw [hB] at z
    have hl2 : len ≤ zs.length := by
      rw [hz]
      split
      · exact hl
      · exact Nat.le_refl _
    have h1 : (lits (H := H) k (zs.take len)).length + (lits (H := H) k (zs.drop len)).length = zs.length := by
      simp [lits]
      omega
    rw [h1] at z
    exact Nat.le_trans (Nat.mul_le_mul_right _ hl2) z
end Go.Proofs.YtfdikkdbmlcjiaaGreatDoorW.PrintWords
end
