/- Packed by this session's program hbpack.py out of this claim's own texts (Q8, Q5, Wr, Tn, Ts, Tu, Pq, Ps): the same declarations, without those that the claim does not use. -/
import Derived.Test.YtfdikkdbmlcjiaaGreatDoorPkTokStrings3
import Derived.HandedShaped
import Derived.ProofKit
import Derived.LaidMore
import Derived.Lay
import Derived.Stop.Joined
import Derived.Shelf.Vars
import Derived.Stop.LaidErr
import Derived.Test.YtfdikkdbmlcjiaaGreatDoorRows
section
/- Laid by this session's program hbprint.py out of the translation: the function hornbook/hornbooklaw04.awake and its contract. -/
namespace Go.Proofs.YtfdikkdbmlcjiaaGreatDoor.M
open Go.RowKit Go.Proofs.YtfdikkdbmlcjiaaGreatDoorW.PrintWords Go.Proofs.YtfdikkdbmlcjiaaGreatDoorW.PrintLast Go.Proofs.YtfdikkdbmlcjiaaGreatDoorW.PrintMore
attribute [local go_sem] max2_int min2_int max_two min_two max_three min_three max_four min_four
set_option linter.unusedVariables false
set_option linter.unusedSimpArgs false
attribute [local go_sem high] eqA31
def hornbooklaw04_awake.f (k : Nat)  : Option (Bool) := (tok_All.f k (⟨#[50, 32, 47, 97, 35, 50, 48, 98, 32, 60, 52, 65, 53, 62]⟩ : ByteArray)).bind fun bt194 => (if bt194.2.2 = 0 then (if bt194.2.1 = 14 then (if (bt194.1.length : Int) = 3 then (if 0 < (bt194.1.length : Int) then (if (((rd_T31 bt194.1 0).f0) == 1 && (((rd_T31 bt194.1 0).f1) == 0 && (((rd_T31 bt194.1 0).f2) == 2 && ((((rd_T31 bt194.1 0).f3).toList) == ([] : List UInt8))))) = true then (if 1 < (bt194.1.length : Int) then (if (((rd_T31 bt194.1 1).f0) == 2 && (((rd_T31 bt194.1 1).f1) == 2 && (((rd_T31 bt194.1 1).f2) == 0 && ((((rd_T31 bt194.1 1).f3).toList) == ([97, 32, 98] : List UInt8))))) = true then (if 2 < (bt194.1.length : Int) then (if ((rd_T31 bt194.1 2).f3).toList = ([74, 80] : List UInt8) then ((tok_Text.f k bt194.1).bind fun t202 => (some (t202.toList == ([50, 32, 47, 97, 35, 50, 48, 98, 32, 60, 52, 65, 53, 48, 62] : List UInt8)))) else (some false)) else (none)) else (some false)) else (none)) else (some false)) else (none)) else (some false)) else (some false)) else (some false))
theorem hornbooklaw04_awake.mono : ∀ k, LeO (hornbooklaw04_awake.f k ) (hornbooklaw04_awake.f (k + 1) ) := by
  intro  k
  unfold hornbooklaw04_awake.f
  repeat' first
      | (with_reducible exact tok_All.mono _ _)
      | (with_reducible exact tok_Text.mono _ _)
      | (with_reducible exact LeO.refl _)
      | (with_reducible exact LeO.none _)
      | (with_reducible refine LeO.ite ?_ ?_)
      | (with_reducible refine LeO.bind ?_ (fun _ => ?_))
      | exact tok_All.mono _ _
      | exact tok_Text.mono _ _
      | exact LeO.none _
      | refine LeO.ite ?_ ?_
      | refine LeO.bind ?_ (fun _ => ?_)
set_option maxHeartbeats 8000000 in
set_option maxRecDepth 100000 in
theorem hornbooklaw04_awake.calls (k : Nat)  (r : Bool) (w : World) (hG : GW w) (h : hornbooklaw04_awake.f k  = some r) :
    Calls Tryz.prog 8 #[] w fun e w' => e = .returned (.bool r) ∧ Below w.heap.size w w' := by
  have hu31 := Tryz.underlying31
  have HG := Aside0.mk hG
  clear hG
  have HB := Aside0.mk (Below.refl w.heap.size w)
  have H : ((tok_All.f k (⟨#[50, 32, 47, 97, 35, 50, 48, 98, 32, 60, 52, 65, 53, 62]⟩ : ByteArray)).bind fun bt194 => (if bt194.2.2 = 0 then (if bt194.2.1 = 14 then (if (bt194.1.length : Int) = 3 then (if 0 < (bt194.1.length : Int) then (if (((rd_T31 bt194.1 0).f0) == 1 && (((rd_T31 bt194.1 0).f1) == 0 && (((rd_T31 bt194.1 0).f2) == 2 && ((((rd_T31 bt194.1 0).f3).toList) == ([] : List UInt8))))) = true then (if 1 < (bt194.1.length : Int) then (if (((rd_T31 bt194.1 1).f0) == 2 && (((rd_T31 bt194.1 1).f1) == 2 && (((rd_T31 bt194.1 1).f2) == 0 && ((((rd_T31 bt194.1 1).f3).toList) == ([97, 32, 98] : List UInt8))))) = true then (if 2 < (bt194.1.length : Int) then (if ((rd_T31 bt194.1 2).f3).toList = ([74, 80] : List UInt8) then ((tok_Text.f k bt194.1).bind fun t202 => (some (t202.toList == ([50, 32, 47, 97, 35, 50, 48, 98, 32, 60, 52, 65, 53, 48, 62] : List UInt8)))) else (some false)) else (none)) else (some false)) else (none)) else (some false)) else (none)) else (some false)) else (some false)) else (some false))) = some r := h
  clear h
  replace H := Option.bind_eq_some_iff.mp H
  obtain ⟨⟨t194, t195, t196⟩, A10, H⟩ := H
  replace H : (if t196 = 0 then (if t195 = 14 then (if (t194.length : Int) = 3 then (if 0 < (t194.length : Int) then (if (((rd_T31 t194 0).f0) == 1 && (((rd_T31 t194 0).f1) == 0 && (((rd_T31 t194 0).f2) == 2 && ((((rd_T31 t194 0).f3).toList) == ([] : List UInt8))))) = true then (if 1 < (t194.length : Int) then (if (((rd_T31 t194 1).f0) == 2 && (((rd_T31 t194 1).f1) == 2 && (((rd_T31 t194 1).f2) == 0 && ((((rd_T31 t194 1).f3).toList) == ([97, 32, 98] : List UInt8))))) = true then (if 2 < (t194.length : Int) then (if ((rd_T31 t194 2).f3).toList = ([74, 80] : List UInt8) then ((tok_Text.f k t194).bind fun t202 => (some (t202.toList == ([50, 32, 47, 97, 35, 50, 48, 98, 32, 60, 52, 65, 53, 48, 62] : List UInt8)))) else (some false)) else (none)) else (some false)) else (none)) else (some false)) else (none)) else (some false)) else (some false)) else (some false)) = some r := H
  have A1 := Aside0.mk A10
  clear A10
  by_cases c2 : t196 = 0
  · rw [if_pos c2] at H
    have c2b0 : (t196 == 0) = true := beq_iff_eq.mpr c2
    have c2b1 : (t196 != 0) = false := bne_eq_false_iff_eq.mpr c2
    clear c2
    by_cases c3 : t195 = 14
    · rw [if_pos c3] at H
      have c3b0 : (t195 == 14) = true := beq_iff_eq.mpr c3
      have c3b1 : (t195 != 14) = false := bne_eq_false_iff_eq.mpr c3
      clear c3
      by_cases c4 : (t194.length : Int) = 3
      · rw [if_pos c4] at H
        have c4b0 : ((t194.length : Int) == 3) = true := beq_iff_eq.mpr c4
        have c4b1 : ((t194.length : Int) != 3) = false := bne_eq_false_iff_eq.mpr c4
        clear c4
        by_cases c5 : 0 < (t194.length : Int)
        · rw [if_pos c5] at H
          have c5b0 : decide (0 < (t194.length : Int)) = true := decide_eq_true c5
          have c5b1 : decide (0 < t194.length) = true := decide_eq_true (by omega)
          clear c5
          by_cases c6 : (((rd_T31 t194 0).f0) == 1 && (((rd_T31 t194 0).f1) == 0 && (((rd_T31 t194 0).f2) == 2 && ((((rd_T31 t194 0).f3).toList) == ([] : List UInt8))))) = true
          · rw [if_pos c6] at H
            have c6b0 : (((rd_T31 t194 0).f0) == 1 && (((rd_T31 t194 0).f1) == 0 && (((rd_T31 t194 0).f2) == 2 && ((((rd_T31 t194 0).f3).toList) == ([] : List UInt8))))) = true := c6
            (try (have c6b1 : decide (((rd_T31 t194 0).f0) = 1 && (((rd_T31 t194 0).f1) == 0 && (((rd_T31 t194 0).f2) == 2 && ((((rd_T31 t194 0).f3).toList) == ([] : List UInt8))))) = true := by simpa using c6))
            (try (have c6b2 : (((rd_T31 t194 0).f0) == 1 && (((rd_T31 t194 0).f1) == 0 && (((rd_T31 t194 0).f2) == 2 && ((((rd_T31 t194 0).f3).toList) == ([] : List UInt8))))) = true := by simpa using c6))
            (try (have c6b3 : ((((rd_T31 t194 0).f0) = 1 ∧ (((rd_T31 t194 0).f1) = 0 ∧ (((rd_T31 t194 0).f2) = 2 ∧ ((((rd_T31 t194 0).f3).toList) = ([] : List UInt8)))))) = True := eq_true (by simpa using c6)))
            (try (have c6b4 : (((rd_T31 t194 0).f0) = 1 ∧ (((rd_T31 t194 0).f1) = 0 ∧ (((rd_T31 t194 0).f2) = 2 ∧ ((((rd_T31 t194 0).f3).toList) = ([] : List UInt8))))) := by simpa using c6))
            clear c6
            by_cases c7 : 1 < (t194.length : Int)
            · rw [if_pos c7] at H
              have c7b0 : decide (1 < (t194.length : Int)) = true := decide_eq_true c7
              have c7b1 : decide (1 < t194.length) = true := decide_eq_true (by omega)
              clear c7
              by_cases c8 : (((rd_T31 t194 1).f0) == 2 && (((rd_T31 t194 1).f1) == 2 && (((rd_T31 t194 1).f2) == 0 && ((((rd_T31 t194 1).f3).toList) == ([97, 32, 98] : List UInt8))))) = true
              · rw [if_pos c8] at H
                have c8b0 : (((rd_T31 t194 1).f0) == 2 && (((rd_T31 t194 1).f1) == 2 && (((rd_T31 t194 1).f2) == 0 && ((((rd_T31 t194 1).f3).toList) == ([97, 32, 98] : List UInt8))))) = true := c8
                (try (have c8b1 : decide (((rd_T31 t194 1).f0) = 2 && (((rd_T31 t194 1).f1) == 2 && (((rd_T31 t194 1).f2) == 0 && ((((rd_T31 t194 1).f3).toList) == ([97, 32, 98] : List UInt8))))) = true := by simpa using c8))
                (try (have c8b2 : (((rd_T31 t194 1).f0) == 2 && (((rd_T31 t194 1).f1) == 2 && (((rd_T31 t194 1).f2) == 0 && ((((rd_T31 t194 1).f3).toList) == ([97, 32, 98] : List UInt8))))) = true := by simpa using c8))
                (try (have c8b3 : ((((rd_T31 t194 1).f0) = 2 ∧ (((rd_T31 t194 1).f1) = 2 ∧ (((rd_T31 t194 1).f2) = 0 ∧ ((((rd_T31 t194 1).f3).toList) = ([97, 32, 98] : List UInt8)))))) = True := eq_true (by simpa using c8)))
                (try (have c8b4 : (((rd_T31 t194 1).f0) = 2 ∧ (((rd_T31 t194 1).f1) = 2 ∧ (((rd_T31 t194 1).f2) = 0 ∧ ((((rd_T31 t194 1).f3).toList) = ([97, 32, 98] : List UInt8))))) := by simpa using c8))
                clear c8
                by_cases c9 : 2 < (t194.length : Int)
                · rw [if_pos c9] at H
                  have c9b0 : decide (2 < (t194.length : Int)) = true := decide_eq_true c9
                  have c9b1 : decide (2 < t194.length) = true := decide_eq_true (by omega)
                  clear c9
                  by_cases c10 : ((rd_T31 t194 2).f3).toList = ([74, 80] : List UInt8)
                  · rw [if_pos c10] at H
                    have c10b0 : (((rd_T31 t194 2).f3).toList == ([74, 80] : List UInt8)) = true := beq_iff_eq.mpr c10
                    have c10b1 : (((rd_T31 t194 2).f3).toList != ([74, 80] : List UInt8)) = false := bne_eq_false_iff_eq.mpr c10
                    clear c10
                    replace H := Option.bind_eq_some_iff.mp H
                    obtain ⟨t202, A110, H⟩ := H
                    replace H : (some (t202.toList == ([50, 32, 47, 97, 35, 50, 48, 98, 32, 60, 52, 65, 53, 48, 62] : List UInt8))) = some r := H
                    have A11 := Aside0.mk A110
                    clear A110
                    obtain rfl := Option.some.inj H
                    go_enter Tryz.func8, Tryz.ntmps8
                    go_wp2_with (first | ((with_reducible refine gate_callee (f := 9) rfl ?_); refine goesL_ (some 5) rfl rfl Tryz.func9 (by kernel_rfl) rfl #[.string (⟨#[50, 32, 47, 97, 35, 50, 48, 98, 32, 60, 52, 65, 53, 62]⟩ : ByteArray)] rfl (by (try simp only [List.map_toArray, List.map_cons, List.map_nil]); first | done | rfl | (simp only [List.length_drop, List.length_take]; rfl)) ?_; (with_reducible refine (tok_All.calls k (⟨#[50, 32, 47, 97, 35, 50, 48, 98, 32, 60, 52, 65, 53, 62]⟩ : ByteArray) t194 t195 t196 _ ?side1 A1.out).mono ?_); (case side1 => exact GW.below (by repeat (first | (with_reducible first | exact HB.out | apply below_alloc | apply pw_below_drewN | apply below_drew1) | exact HB.out)) HG.out); rintro e w12 ⟨v197, rfl, ho0, hb⟩; refine ⟨_, rfl, ?_⟩; have n0_ := Aside0.mk (Kd.R_lower ho0 (below_size (by repeat (first | (with_reducible first | exact HB.out | apply below_alloc | apply pw_below_drewN | apply below_drew1) | exact HB.out)))); have n1_ := Aside0.mk (below_step (by repeat (first | (with_reducible first | exact HB.out | apply below_alloc | apply pw_below_drewN | apply below_drew1) | exact HB.out)) hb); clear HB; have HO198 := n0_; have HB := n1_; clear n0_ n1_; (try clear hb); (try clear hb2); (try clear hk); (try clear hi); (try clear ho0); obtain ⟨Ao13, co13, eo13⟩ := Kd.R_slice HO198.out; subst eo13; have p199 : 0 ≤ (0 : Int) := (by omega); have q199 : 0 < (t194.length : Int) := of_decide_eq_true (by first | (with_reducible assumption) | assumption); obtain ⟨ad199, e199, hx199_0, hx199_1, hx199_2, hx199_3⟩ := at_T31 (Kd.R_reads' HO198.out).2.2 0 p199 q199; cases e199; have qi199 : (0 < t194.length) = True := eq_true (by omega); (try rw [show ((0 : Int)).toNat = 0 from rfl] at hx199_0); (try rw [show 0 * 4 = 0 from rfl] at hx199_0); (try rw [Addr.add_zero'] at hx199_0); (try rw [show ((0 : Int)).toNat = 0 from rfl] at hx199_1); (try rw [show 0 * 4 = 0 from rfl] at hx199_1); (try rw [Addr.add_zero'] at hx199_1); (try rw [show ((0 : Int)).toNat = 0 from rfl] at hx199_2); (try rw [show 0 * 4 = 0 from rfl] at hx199_2); (try rw [Addr.add_zero'] at hx199_2); (try rw [show ((0 : Int)).toNat = 0 from rfl] at hx199_3); (try rw [show 0 * 4 = 0 from rfl] at hx199_3); (try rw [Addr.add_zero'] at hx199_3); replace p199 := eq_true p199; replace q199 := eq_true q199; have p200 : 0 ≤ (1 : Int) := (by omega); have q200 : 1 < (t194.length : Int) := of_decide_eq_true (by first | (with_reducible assumption) | assumption); obtain ⟨ad200, e200, hx200_0, hx200_1, hx200_2, hx200_3⟩ := at_T31 (Kd.R_reads' HO198.out).2.2 1 p200 q200; obtain rfl : ad199 = ad200 := (by injection e200); (try simp only [show (1 : Int).toNat = 1 from rfl, Nat.reduceMul, Nat.reduceEqDiff, Go.Addr.add, ↓reduceIte] at hx200_0); (try simp only [show (1 : Int).toNat = 1 from rfl, Nat.reduceMul, Nat.reduceEqDiff, Go.Addr.add, ↓reduceIte] at hx200_1); (try simp only [show (1 : Int).toNat = 1 from rfl, Nat.reduceMul, Nat.reduceEqDiff, Go.Addr.add, ↓reduceIte] at hx200_2); (try simp only [show (1 : Int).toNat = 1 from rfl, Nat.reduceMul, Nat.reduceEqDiff, Go.Addr.add, ↓reduceIte] at hx200_3); have qi200 : (1 < t194.length) = True := eq_true (by omega); (try rw [show ((1 : Int)).toNat = 1 from rfl] at hx200_0); (try rw [show 1 * 4 = 4 from rfl] at hx200_0); (try rw [show ((1 : Int)).toNat = 1 from rfl] at hx200_1); (try rw [show 1 * 4 = 4 from rfl] at hx200_1); (try rw [show ((1 : Int)).toNat = 1 from rfl] at hx200_2); (try rw [show 1 * 4 = 4 from rfl] at hx200_2); (try rw [show ((1 : Int)).toNat = 1 from rfl] at hx200_3); (try rw [show 1 * 4 = 4 from rfl] at hx200_3); replace p200 := eq_true p200; replace q200 := eq_true q200; have p201 : 0 ≤ (2 : Int) := (by omega); have q201 : 2 < (t194.length : Int) := of_decide_eq_true (by first | (with_reducible assumption) | assumption); obtain ⟨ad201, e201, hx201_0, hx201_1, hx201_2, hx201_3⟩ := at_T31 (Kd.R_reads' HO198.out).2.2 2 p201 q201; obtain rfl : ad199 = ad201 := (by injection e201); (try simp only [show (2 : Int).toNat = 2 from rfl, Nat.reduceMul, Nat.reduceEqDiff, Go.Addr.add, ↓reduceIte] at hx201_0); (try simp only [show (2 : Int).toNat = 2 from rfl, Nat.reduceMul, Nat.reduceEqDiff, Go.Addr.add, ↓reduceIte] at hx201_1); (try simp only [show (2 : Int).toNat = 2 from rfl, Nat.reduceMul, Nat.reduceEqDiff, Go.Addr.add, ↓reduceIte] at hx201_2); (try simp only [show (2 : Int).toNat = 2 from rfl, Nat.reduceMul, Nat.reduceEqDiff, Go.Addr.add, ↓reduceIte] at hx201_3); have qi201 : (2 < t194.length) = True := eq_true (by omega); (try rw [show ((2 : Int)).toNat = 2 from rfl] at hx201_0); (try rw [show 2 * 4 = 8 from rfl] at hx201_0); (try rw [show ((2 : Int)).toNat = 2 from rfl] at hx201_1); (try rw [show 2 * 4 = 8 from rfl] at hx201_1); (try rw [show ((2 : Int)).toNat = 2 from rfl] at hx201_2); (try rw [show 2 * 4 = 8 from rfl] at hx201_2); (try rw [show ((2 : Int)).toNat = 2 from rfl] at hx201_3); (try rw [show 2 * 4 = 8 from rfl] at hx201_3); replace p201 := eq_true p201; replace q201 := eq_true q201) | (go_at_call 10; (with_reducible refine (tok_Text.calls k _ _ t194 t202 _ ?side1 ?side2 ?side3 A11.out).mono ?_); (case side1 => exact GW.below (by repeat (first | (with_reducible first | exact HB.out | apply below_alloc | apply pw_below_drewN | apply below_drew1) | exact HB.out)) HG.out); (case side2 => repeat (first | exact (Kd.R_reads' HO198.out).2.2 | (with_reducible refine Kd.C_alloc ?_ _) | (with_reducible refine Kd.C_drewN ?_ _) | (with_reducible refine Kd.C_drew ?_))); (case side3 => exact (Kd.R_reads' HO198.out).2.1); rintro e w14 ⟨rfl, hb⟩; have n0_ := Aside0.mk (Kd.R_below (by (with_reducible repeat (first | apply Kd.R_alloc | apply Kd.R_drewN | apply Kd.R_drew)); exact HO198.out) hb); have n1_ := Aside0.mk (below_step (by repeat (first | (with_reducible first | exact HB.out | apply below_alloc | apply pw_below_drewN | apply below_drew1) | exact HB.out)) hb); clear HO198; clear HB; have HO198 := n0_; have HB := n1_; clear n0_ n1_; (try clear hb); (try clear hb2); (try clear hk); (try clear hi)))
                    go_ret
                    exact ⟨by first | rfl | (simp [errW_none, errW_some] <;> rfl) | (simp [*, errW_none, errW_some] <;> rfl), by repeat (first | (with_reducible first | exact HB.out | apply below_alloc | apply pw_below_drewN | apply below_drew1) | exact HB.out)⟩
                  · rw [if_neg c10] at H
                    have c10b0 : (((rd_T31 t194 2).f3).toList == ([74, 80] : List UInt8)) = false := beq_eq_false_iff_ne.mpr c10
                    have c10b1 : (((rd_T31 t194 2).f3).toList != ([74, 80] : List UInt8)) = true := bne_iff_ne.mpr c10
                    obtain rfl := Option.some.inj H
                    go_enter Tryz.func8, Tryz.ntmps8
                    go_wp2_with (first | ((with_reducible refine gate_callee (f := 9) rfl ?_); refine goesL_ (some 5) rfl rfl Tryz.func9 (by kernel_rfl) rfl #[.string (⟨#[50, 32, 47, 97, 35, 50, 48, 98, 32, 60, 52, 65, 53, 62]⟩ : ByteArray)] rfl (by (try simp only [List.map_toArray, List.map_cons, List.map_nil]); first | done | rfl | (simp only [List.length_drop, List.length_take]; rfl)) ?_; (with_reducible refine (tok_All.calls k (⟨#[50, 32, 47, 97, 35, 50, 48, 98, 32, 60, 52, 65, 53, 62]⟩ : ByteArray) t194 t195 t196 _ ?side1 A1.out).mono ?_); (case side1 => exact GW.below (by repeat (first | (with_reducible first | exact HB.out | apply below_alloc | apply pw_below_drewN | apply below_drew1) | exact HB.out)) HG.out); rintro e w15 ⟨v197, rfl, ho0, hb⟩; refine ⟨_, rfl, ?_⟩; have n0_ := Aside0.mk (Kd.R_lower ho0 (below_size (by repeat (first | (with_reducible first | exact HB.out | apply below_alloc | apply pw_below_drewN | apply below_drew1) | exact HB.out)))); have n1_ := Aside0.mk (below_step (by repeat (first | (with_reducible first | exact HB.out | apply below_alloc | apply pw_below_drewN | apply below_drew1) | exact HB.out)) hb); clear HB; have HO198 := n0_; have HB := n1_; clear n0_ n1_; (try clear hb); (try clear hb2); (try clear hk); (try clear hi); (try clear ho0); obtain ⟨Ao16, co16, eo16⟩ := Kd.R_slice HO198.out; subst eo16; have p199 : 0 ≤ (0 : Int) := (by omega); have q199 : 0 < (t194.length : Int) := of_decide_eq_true (by first | (with_reducible assumption) | assumption); obtain ⟨ad199, e199, hx199_0, hx199_1, hx199_2, hx199_3⟩ := at_T31 (Kd.R_reads' HO198.out).2.2 0 p199 q199; cases e199; have qi199 : (0 < t194.length) = True := eq_true (by omega); (try rw [show ((0 : Int)).toNat = 0 from rfl] at hx199_0); (try rw [show 0 * 4 = 0 from rfl] at hx199_0); (try rw [Addr.add_zero'] at hx199_0); (try rw [show ((0 : Int)).toNat = 0 from rfl] at hx199_1); (try rw [show 0 * 4 = 0 from rfl] at hx199_1); (try rw [Addr.add_zero'] at hx199_1); (try rw [show ((0 : Int)).toNat = 0 from rfl] at hx199_2); (try rw [show 0 * 4 = 0 from rfl] at hx199_2); (try rw [Addr.add_zero'] at hx199_2); (try rw [show ((0 : Int)).toNat = 0 from rfl] at hx199_3); (try rw [show 0 * 4 = 0 from rfl] at hx199_3); (try rw [Addr.add_zero'] at hx199_3); replace p199 := eq_true p199; replace q199 := eq_true q199; have p200 : 0 ≤ (1 : Int) := (by omega); have q200 : 1 < (t194.length : Int) := of_decide_eq_true (by first | (with_reducible assumption) | assumption); obtain ⟨ad200, e200, hx200_0, hx200_1, hx200_2, hx200_3⟩ := at_T31 (Kd.R_reads' HO198.out).2.2 1 p200 q200; obtain rfl : ad199 = ad200 := (by injection e200); (try simp only [show (1 : Int).toNat = 1 from rfl, Nat.reduceMul, Nat.reduceEqDiff, Go.Addr.add, ↓reduceIte] at hx200_0); (try simp only [show (1 : Int).toNat = 1 from rfl, Nat.reduceMul, Nat.reduceEqDiff, Go.Addr.add, ↓reduceIte] at hx200_1); (try simp only [show (1 : Int).toNat = 1 from rfl, Nat.reduceMul, Nat.reduceEqDiff, Go.Addr.add, ↓reduceIte] at hx200_2); (try simp only [show (1 : Int).toNat = 1 from rfl, Nat.reduceMul, Nat.reduceEqDiff, Go.Addr.add, ↓reduceIte] at hx200_3); have qi200 : (1 < t194.length) = True := eq_true (by omega); (try rw [show ((1 : Int)).toNat = 1 from rfl] at hx200_0); (try rw [show 1 * 4 = 4 from rfl] at hx200_0); (try rw [show ((1 : Int)).toNat = 1 from rfl] at hx200_1); (try rw [show 1 * 4 = 4 from rfl] at hx200_1); (try rw [show ((1 : Int)).toNat = 1 from rfl] at hx200_2); (try rw [show 1 * 4 = 4 from rfl] at hx200_2); (try rw [show ((1 : Int)).toNat = 1 from rfl] at hx200_3); (try rw [show 1 * 4 = 4 from rfl] at hx200_3); replace p200 := eq_true p200; replace q200 := eq_true q200; have p201 : 0 ≤ (2 : Int) := (by omega); have q201 : 2 < (t194.length : Int) := of_decide_eq_true (by first | (with_reducible assumption) | assumption); obtain ⟨ad201, e201, hx201_0, hx201_1, hx201_2, hx201_3⟩ := at_T31 (Kd.R_reads' HO198.out).2.2 2 p201 q201; obtain rfl : ad199 = ad201 := (by injection e201); (try simp only [show (2 : Int).toNat = 2 from rfl, Nat.reduceMul, Nat.reduceEqDiff, Go.Addr.add, ↓reduceIte] at hx201_0); (try simp only [show (2 : Int).toNat = 2 from rfl, Nat.reduceMul, Nat.reduceEqDiff, Go.Addr.add, ↓reduceIte] at hx201_1); (try simp only [show (2 : Int).toNat = 2 from rfl, Nat.reduceMul, Nat.reduceEqDiff, Go.Addr.add, ↓reduceIte] at hx201_2); (try simp only [show (2 : Int).toNat = 2 from rfl, Nat.reduceMul, Nat.reduceEqDiff, Go.Addr.add, ↓reduceIte] at hx201_3); have qi201 : (2 < t194.length) = True := eq_true (by omega); (try rw [show ((2 : Int)).toNat = 2 from rfl] at hx201_0); (try rw [show 2 * 4 = 8 from rfl] at hx201_0); (try rw [show ((2 : Int)).toNat = 2 from rfl] at hx201_1); (try rw [show 2 * 4 = 8 from rfl] at hx201_1); (try rw [show ((2 : Int)).toNat = 2 from rfl] at hx201_2); (try rw [show 2 * 4 = 8 from rfl] at hx201_2); (try rw [show ((2 : Int)).toNat = 2 from rfl] at hx201_3); (try rw [show 2 * 4 = 8 from rfl] at hx201_3); replace p201 := eq_true p201; replace q201 := eq_true q201))
                    go_ret
                    exact ⟨by first | rfl | (simp [errW_none, errW_some] <;> rfl) | (simp [*, errW_none, errW_some] <;> rfl), by repeat (first | (with_reducible first | exact HB.out | apply below_alloc | apply pw_below_drewN | apply below_drew1) | exact HB.out)⟩
                · rw [if_neg c9] at H
                  exact absurd H (by simp)
              · rw [if_neg c8] at H
                have c8b0 : (((rd_T31 t194 1).f0) == 2 && (((rd_T31 t194 1).f1) == 2 && (((rd_T31 t194 1).f2) == 0 && ((((rd_T31 t194 1).f3).toList) == ([97, 32, 98] : List UInt8))))) = false := by simpa using c8
                (try (have c8b1 : decide (((rd_T31 t194 1).f0) = 2 && (((rd_T31 t194 1).f1) == 2 && (((rd_T31 t194 1).f2) == 0 && ((((rd_T31 t194 1).f3).toList) == ([97, 32, 98] : List UInt8))))) = false := by simpa using c8))
                (try (have c8b2 : (((rd_T31 t194 1).f0) == 2 && (((rd_T31 t194 1).f1) == 2 && (((rd_T31 t194 1).f2) == 0 && ((((rd_T31 t194 1).f3).toList) == ([97, 32, 98] : List UInt8))))) = false := by simpa using c8))
                (try (have c8b3 : ¬ (((rd_T31 t194 1).f0) = 2 && (((rd_T31 t194 1).f1) == 2 && (((rd_T31 t194 1).f2) == 0 && ((((rd_T31 t194 1).f3).toList) == ([97, 32, 98] : List UInt8))))) := by simpa using c8))
                (try (have c8b4 : ¬ ((((rd_T31 t194 1).f0) = 2 ∧ (((rd_T31 t194 1).f1) = 2 ∧ (((rd_T31 t194 1).f2) = 0 ∧ ((((rd_T31 t194 1).f3).toList) = ([97, 32, 98] : List UInt8)))))) := by first | simpa using c8 | (intro h_; simp [h_] at c8)))
                clear c8
                obtain rfl := Option.some.inj H
                go_enter Tryz.func8, Tryz.ntmps8
                go_wp2_with (first | ((with_reducible refine gate_callee (f := 9) rfl ?_); refine goesL_ (some 5) rfl rfl Tryz.func9 (by kernel_rfl) rfl #[.string (⟨#[50, 32, 47, 97, 35, 50, 48, 98, 32, 60, 52, 65, 53, 62]⟩ : ByteArray)] rfl (by (try simp only [List.map_toArray, List.map_cons, List.map_nil]); first | done | rfl | (simp only [List.length_drop, List.length_take]; rfl)) ?_; (with_reducible refine (tok_All.calls k (⟨#[50, 32, 47, 97, 35, 50, 48, 98, 32, 60, 52, 65, 53, 62]⟩ : ByteArray) t194 t195 t196 _ ?side1 A1.out).mono ?_); (case side1 => exact GW.below (by repeat (first | (with_reducible first | exact HB.out | apply below_alloc | apply pw_below_drewN | apply below_drew1) | exact HB.out)) HG.out); rintro e w17 ⟨v197, rfl, ho0, hb⟩; refine ⟨_, rfl, ?_⟩; have n0_ := Aside0.mk (Kd.R_lower ho0 (below_size (by repeat (first | (with_reducible first | exact HB.out | apply below_alloc | apply pw_below_drewN | apply below_drew1) | exact HB.out)))); have n1_ := Aside0.mk (below_step (by repeat (first | (with_reducible first | exact HB.out | apply below_alloc | apply pw_below_drewN | apply below_drew1) | exact HB.out)) hb); clear HB; have HO198 := n0_; have HB := n1_; clear n0_ n1_; (try clear hb); (try clear hb2); (try clear hk); (try clear hi); (try clear ho0); obtain ⟨Ao18, co18, eo18⟩ := Kd.R_slice HO198.out; subst eo18; have p199 : 0 ≤ (0 : Int) := (by omega); have q199 : 0 < (t194.length : Int) := of_decide_eq_true (by first | (with_reducible assumption) | assumption); obtain ⟨ad199, e199, hx199_0, hx199_1, hx199_2, hx199_3⟩ := at_T31 (Kd.R_reads' HO198.out).2.2 0 p199 q199; cases e199; have qi199 : (0 < t194.length) = True := eq_true (by omega); (try rw [show ((0 : Int)).toNat = 0 from rfl] at hx199_0); (try rw [show 0 * 4 = 0 from rfl] at hx199_0); (try rw [Addr.add_zero'] at hx199_0); (try rw [show ((0 : Int)).toNat = 0 from rfl] at hx199_1); (try rw [show 0 * 4 = 0 from rfl] at hx199_1); (try rw [Addr.add_zero'] at hx199_1); (try rw [show ((0 : Int)).toNat = 0 from rfl] at hx199_2); (try rw [show 0 * 4 = 0 from rfl] at hx199_2); (try rw [Addr.add_zero'] at hx199_2); (try rw [show ((0 : Int)).toNat = 0 from rfl] at hx199_3); (try rw [show 0 * 4 = 0 from rfl] at hx199_3); (try rw [Addr.add_zero'] at hx199_3); replace p199 := eq_true p199; replace q199 := eq_true q199; have p200 : 0 ≤ (1 : Int) := (by omega); have q200 : 1 < (t194.length : Int) := of_decide_eq_true (by first | (with_reducible assumption) | assumption); obtain ⟨ad200, e200, hx200_0, hx200_1, hx200_2, hx200_3⟩ := at_T31 (Kd.R_reads' HO198.out).2.2 1 p200 q200; obtain rfl : ad199 = ad200 := (by injection e200); (try simp only [show (1 : Int).toNat = 1 from rfl, Nat.reduceMul, Nat.reduceEqDiff, Go.Addr.add, ↓reduceIte] at hx200_0); (try simp only [show (1 : Int).toNat = 1 from rfl, Nat.reduceMul, Nat.reduceEqDiff, Go.Addr.add, ↓reduceIte] at hx200_1); (try simp only [show (1 : Int).toNat = 1 from rfl, Nat.reduceMul, Nat.reduceEqDiff, Go.Addr.add, ↓reduceIte] at hx200_2); (try simp only [show (1 : Int).toNat = 1 from rfl, Nat.reduceMul, Nat.reduceEqDiff, Go.Addr.add, ↓reduceIte] at hx200_3); have qi200 : (1 < t194.length) = True := eq_true (by omega); (try rw [show ((1 : Int)).toNat = 1 from rfl] at hx200_0); (try rw [show 1 * 4 = 4 from rfl] at hx200_0); (try rw [show ((1 : Int)).toNat = 1 from rfl] at hx200_1); (try rw [show 1 * 4 = 4 from rfl] at hx200_1); (try rw [show ((1 : Int)).toNat = 1 from rfl] at hx200_2); (try rw [show 1 * 4 = 4 from rfl] at hx200_2); (try rw [show ((1 : Int)).toNat = 1 from rfl] at hx200_3); (try rw [show 1 * 4 = 4 from rfl] at hx200_3); replace p200 := eq_true p200; replace q200 := eq_true q200))
                go_ret
                exact ⟨by first | rfl | (simp [errW_none, errW_some] <;> rfl) | (simp [*, errW_none, errW_some] <;> rfl), by repeat (first | (with_reducible first | exact HB.out | apply below_alloc | apply pw_below_drewN | apply below_drew1) | exact HB.out)⟩
            · rw [if_neg c7] at H
              exact absurd H (by simp)
          · rw [if_neg c6] at H
            have c6b0 : (((rd_T31 t194 0).f0) == 1 && (((rd_T31 t194 0).f1) == 0 && (((rd_T31 t194 0).f2) == 2 && ((((rd_T31 t194 0).f3).toList) == ([] : List UInt8))))) = false := by simpa using c6
            (try (have c6b1 : decide (((rd_T31 t194 0).f0) = 1 && (((rd_T31 t194 0).f1) == 0 && (((rd_T31 t194 0).f2) == 2 && ((((rd_T31 t194 0).f3).toList) == ([] : List UInt8))))) = false := by simpa using c6))
            (try (have c6b2 : (((rd_T31 t194 0).f0) == 1 && (((rd_T31 t194 0).f1) == 0 && (((rd_T31 t194 0).f2) == 2 && ((((rd_T31 t194 0).f3).toList) == ([] : List UInt8))))) = false := by simpa using c6))
            (try (have c6b3 : ¬ (((rd_T31 t194 0).f0) = 1 && (((rd_T31 t194 0).f1) == 0 && (((rd_T31 t194 0).f2) == 2 && ((((rd_T31 t194 0).f3).toList) == ([] : List UInt8))))) := by simpa using c6))
            (try (have c6b4 : ¬ ((((rd_T31 t194 0).f0) = 1 ∧ (((rd_T31 t194 0).f1) = 0 ∧ (((rd_T31 t194 0).f2) = 2 ∧ ((((rd_T31 t194 0).f3).toList) = ([] : List UInt8)))))) := by first | simpa using c6 | (intro h_; simp [h_] at c6)))
            clear c6
            obtain rfl := Option.some.inj H
            go_enter Tryz.func8, Tryz.ntmps8
            go_wp2_with (first | ((with_reducible refine gate_callee (f := 9) rfl ?_); refine goesL_ (some 5) rfl rfl Tryz.func9 (by kernel_rfl) rfl #[.string (⟨#[50, 32, 47, 97, 35, 50, 48, 98, 32, 60, 52, 65, 53, 62]⟩ : ByteArray)] rfl (by (try simp only [List.map_toArray, List.map_cons, List.map_nil]); first | done | rfl | (simp only [List.length_drop, List.length_take]; rfl)) ?_; (with_reducible refine (tok_All.calls k (⟨#[50, 32, 47, 97, 35, 50, 48, 98, 32, 60, 52, 65, 53, 62]⟩ : ByteArray) t194 t195 t196 _ ?side1 A1.out).mono ?_); (case side1 => exact GW.below (by repeat (first | (with_reducible first | exact HB.out | apply below_alloc | apply pw_below_drewN | apply below_drew1) | exact HB.out)) HG.out); rintro e w19 ⟨v197, rfl, ho0, hb⟩; refine ⟨_, rfl, ?_⟩; have n0_ := Aside0.mk (Kd.R_lower ho0 (below_size (by repeat (first | (with_reducible first | exact HB.out | apply below_alloc | apply pw_below_drewN | apply below_drew1) | exact HB.out)))); have n1_ := Aside0.mk (below_step (by repeat (first | (with_reducible first | exact HB.out | apply below_alloc | apply pw_below_drewN | apply below_drew1) | exact HB.out)) hb); clear HB; have HO198 := n0_; have HB := n1_; clear n0_ n1_; (try clear hb); (try clear hb2); (try clear hk); (try clear hi); (try clear ho0); obtain ⟨Ao20, co20, eo20⟩ := Kd.R_slice HO198.out; subst eo20; have p199 : 0 ≤ (0 : Int) := (by omega); have q199 : 0 < (t194.length : Int) := of_decide_eq_true (by first | (with_reducible assumption) | assumption); obtain ⟨ad199, e199, hx199_0, hx199_1, hx199_2, hx199_3⟩ := at_T31 (Kd.R_reads' HO198.out).2.2 0 p199 q199; cases e199; have qi199 : (0 < t194.length) = True := eq_true (by omega); (try rw [show ((0 : Int)).toNat = 0 from rfl] at hx199_0); (try rw [show 0 * 4 = 0 from rfl] at hx199_0); (try rw [Addr.add_zero'] at hx199_0); (try rw [show ((0 : Int)).toNat = 0 from rfl] at hx199_1); (try rw [show 0 * 4 = 0 from rfl] at hx199_1); (try rw [Addr.add_zero'] at hx199_1); (try rw [show ((0 : Int)).toNat = 0 from rfl] at hx199_2); (try rw [show 0 * 4 = 0 from rfl] at hx199_2); (try rw [Addr.add_zero'] at hx199_2); (try rw [show ((0 : Int)).toNat = 0 from rfl] at hx199_3); (try rw [show 0 * 4 = 0 from rfl] at hx199_3); (try rw [Addr.add_zero'] at hx199_3); replace p199 := eq_true p199; replace q199 := eq_true q199))
            go_ret
            exact ⟨by first | rfl | (simp [errW_none, errW_some] <;> rfl) | (simp [*, errW_none, errW_some] <;> rfl), by repeat (first | (with_reducible first | exact HB.out | apply below_alloc | apply pw_below_drewN | apply below_drew1) | exact HB.out)⟩
        · rw [if_neg c5] at H
          exact absurd H (by simp)
      · rw [if_neg c4] at H
        have c4b0 : ((t194.length : Int) == 3) = false := beq_eq_false_iff_ne.mpr c4
        have c4b1 : ((t194.length : Int) != 3) = true := bne_iff_ne.mpr c4
        obtain rfl := Option.some.inj H
        go_enter Tryz.func8, Tryz.ntmps8
        go_wp2_with (first | ((with_reducible refine gate_callee (f := 9) rfl ?_); refine goesL_ (some 5) rfl rfl Tryz.func9 (by kernel_rfl) rfl #[.string (⟨#[50, 32, 47, 97, 35, 50, 48, 98, 32, 60, 52, 65, 53, 62]⟩ : ByteArray)] rfl (by (try simp only [List.map_toArray, List.map_cons, List.map_nil]); first | done | rfl | (simp only [List.length_drop, List.length_take]; rfl)) ?_; (with_reducible refine (tok_All.calls k (⟨#[50, 32, 47, 97, 35, 50, 48, 98, 32, 60, 52, 65, 53, 62]⟩ : ByteArray) t194 t195 t196 _ ?side1 A1.out).mono ?_); (case side1 => exact GW.below (by repeat (first | (with_reducible first | exact HB.out | apply below_alloc | apply pw_below_drewN | apply below_drew1) | exact HB.out)) HG.out); rintro e w21 ⟨v197, rfl, ho0, hb⟩; refine ⟨_, rfl, ?_⟩; have n0_ := Aside0.mk (Kd.R_lower ho0 (below_size (by repeat (first | (with_reducible first | exact HB.out | apply below_alloc | apply pw_below_drewN | apply below_drew1) | exact HB.out)))); have n1_ := Aside0.mk (below_step (by repeat (first | (with_reducible first | exact HB.out | apply below_alloc | apply pw_below_drewN | apply below_drew1) | exact HB.out)) hb); clear HB; have HO198 := n0_; have HB := n1_; clear n0_ n1_; (try clear hb); (try clear hb2); (try clear hk); (try clear hi); (try clear ho0); obtain ⟨Ao22, co22, eo22⟩ := Kd.R_slice HO198.out; subst eo22))
        go_ret
        exact ⟨by first | rfl | (simp [errW_none, errW_some] <;> rfl) | (simp [*, errW_none, errW_some] <;> rfl), by repeat (first | (with_reducible first | exact HB.out | apply below_alloc | apply pw_below_drewN | apply below_drew1) | exact HB.out)⟩
    · rw [if_neg c3] at H
      have c3b0 : (t195 == 14) = false := beq_eq_false_iff_ne.mpr c3
      have c3b1 : (t195 != 14) = true := bne_iff_ne.mpr c3
      obtain rfl := Option.some.inj H
      go_enter Tryz.func8, Tryz.ntmps8
      go_wp2_with (first | ((with_reducible refine gate_callee (f := 9) rfl ?_); refine goesL_ (some 5) rfl rfl Tryz.func9 (by kernel_rfl) rfl #[.string (⟨#[50, 32, 47, 97, 35, 50, 48, 98, 32, 60, 52, 65, 53, 62]⟩ : ByteArray)] rfl (by (try simp only [List.map_toArray, List.map_cons, List.map_nil]); first | done | rfl | (simp only [List.length_drop, List.length_take]; rfl)) ?_; (with_reducible refine (tok_All.calls k (⟨#[50, 32, 47, 97, 35, 50, 48, 98, 32, 60, 52, 65, 53, 62]⟩ : ByteArray) t194 t195 t196 _ ?side1 A1.out).mono ?_); (case side1 => exact GW.below (by repeat (first | (with_reducible first | exact HB.out | apply below_alloc | apply pw_below_drewN | apply below_drew1) | exact HB.out)) HG.out); rintro e w23 ⟨v197, rfl, ho0, hb⟩; refine ⟨_, rfl, ?_⟩; have n0_ := Aside0.mk (Kd.R_lower ho0 (below_size (by repeat (first | (with_reducible first | exact HB.out | apply below_alloc | apply pw_below_drewN | apply below_drew1) | exact HB.out)))); have n1_ := Aside0.mk (below_step (by repeat (first | (with_reducible first | exact HB.out | apply below_alloc | apply pw_below_drewN | apply below_drew1) | exact HB.out)) hb); clear HB; have HO198 := n0_; have HB := n1_; clear n0_ n1_; (try clear hb); (try clear hb2); (try clear hk); (try clear hi); (try clear ho0)))
      go_ret
      exact ⟨by first | rfl | (simp [errW_none, errW_some] <;> rfl) | (simp [*, errW_none, errW_some] <;> rfl), by repeat (first | (with_reducible first | exact HB.out | apply below_alloc | apply pw_below_drewN | apply below_drew1) | exact HB.out)⟩
  · rw [if_neg c2] at H
    have c2b0 : (t196 == 0) = false := beq_eq_false_iff_ne.mpr c2
    have c2b1 : (t196 != 0) = true := bne_iff_ne.mpr c2
    obtain rfl := Option.some.inj H
    go_enter Tryz.func8, Tryz.ntmps8
    go_wp2_with (first | ((with_reducible refine gate_callee (f := 9) rfl ?_); refine goesL_ (some 5) rfl rfl Tryz.func9 (by kernel_rfl) rfl #[.string (⟨#[50, 32, 47, 97, 35, 50, 48, 98, 32, 60, 52, 65, 53, 62]⟩ : ByteArray)] rfl (by (try simp only [List.map_toArray, List.map_cons, List.map_nil]); first | done | rfl | (simp only [List.length_drop, List.length_take]; rfl)) ?_; (with_reducible refine (tok_All.calls k (⟨#[50, 32, 47, 97, 35, 50, 48, 98, 32, 60, 52, 65, 53, 62]⟩ : ByteArray) t194 t195 t196 _ ?side1 A1.out).mono ?_); (case side1 => exact GW.below (by repeat (first | (with_reducible first | exact HB.out | apply below_alloc | apply pw_below_drewN | apply below_drew1) | exact HB.out)) HG.out); rintro e w24 ⟨v197, rfl, ho0, hb⟩; refine ⟨_, rfl, ?_⟩; have n0_ := Aside0.mk (Kd.R_lower ho0 (below_size (by repeat (first | (with_reducible first | exact HB.out | apply below_alloc | apply pw_below_drewN | apply below_drew1) | exact HB.out)))); have n1_ := Aside0.mk (below_step (by repeat (first | (with_reducible first | exact HB.out | apply below_alloc | apply pw_below_drewN | apply below_drew1) | exact HB.out)) hb); clear HB; have HO198 := n0_; have HB := n1_; clear n0_ n1_; (try clear hb); (try clear hb2); (try clear hk); (try clear hi); (try clear ho0)))
    go_ret
    exact ⟨by first | rfl | (simp [errW_none, errW_some] <;> rfl) | (simp [*, errW_none, errW_some] <;> rfl), by repeat (first | (with_reducible first | exact HB.out | apply below_alloc | apply pw_below_drewN | apply below_drew1) | exact HB.out)⟩
end Go.Proofs.YtfdikkdbmlcjiaaGreatDoor.M
end
section
/- Laid by this session's program hbprint.py out of the translation: the function hornbook/hornbooklaw04.TokStrings and its contract. -/
namespace Go.Proofs.YtfdikkdbmlcjiaaGreatDoor.M
open Go.RowKit Go.Proofs.YtfdikkdbmlcjiaaGreatDoorW.PrintWords Go.Proofs.YtfdikkdbmlcjiaaGreatDoorW.PrintLast Go.Proofs.YtfdikkdbmlcjiaaGreatDoorW.PrintMore
attribute [local go_sem] max2_int min2_int max_two min_two max_three min_three max_four min_four
set_option linter.unusedVariables false
set_option linter.unusedSimpArgs false
attribute [local go_sem high] eqA31
mutual
def hornbooklaw04_TokStrings.l0 : Nat → Bool → ByteArray → Int → Int → Int → Int → ByteArray → ByteArray → Int → Int → Int → Int → ByteArray → Int → Int → Int → ByteArray → Int → Int → Int → ByteArray → Int → Int → Int → ByteArray → Option (Bool)
  | 0, _, _, _, _, _, _, _, _, _, _, _, _, _, _, _, _, _, _, _, _, _, _, _, _, _ => none
  | k + 1, x5, x7, x9, x10, x14, x15, x16, x17, x18, x243000, x243001, x243002, x243003, x251000, x251001, x251002, x251003, x252000, x252001, x252002, x252003, x260000, x260001, x260002, x260003 => if x18 < x15 then (if x16.size + 1 ≤ 9223372036854775807 then (if x17.size + 1 ≤ 9223372036854775807 then (hornbooklaw04_TokStrings.l0 k x5 x7 x9 x10 x14 x15 (x16 ++ (⟨#[40]⟩ : ByteArray)) (x17 ++ (⟨#[41]⟩ : ByteArray)) (wrap64 (x18 + 1)) x243000 x243001 x243002 x243003 x251000 x251001 x251002 x251003 x252000 x252001 x252002 x252003 x260000 x260001 x260002 x260003) else (none)) else (none)) else (if x16.size + x17.size ≤ 9223372036854775807 then ((tok_Next.f k (x16 ++ x17) 0).bind fun bt260 => (if x10 = 0 then (if (!(x251000 == x243000) || (!(x251001 == x243001) || (!(x251002 == x243002) || (!(x251003.toList == x243003.toList))))) = true then (hornbooklaw04_TokStrings.j1 k x5 x15 x16 x17 bt260.2.2.2.2.2 true bt260.1 bt260.2.1 bt260.2.2.1 bt260.2.2.2.1) else (if x9 = (x7.size : Int) then (if x14 = 0 then (hornbooklaw04_TokStrings.j1 k x5 x15 x16 x17 bt260.2.2.2.2.2 (!(x260000 == x252000) || (!(x260001 == x252001) || (!(x260002 == x252002) || (!(x260003.toList == x252003.toList))))) bt260.1 bt260.2.1 bt260.2.2.1 bt260.2.2.2.1) else (hornbooklaw04_TokStrings.j1 k x5 x15 x16 x17 bt260.2.2.2.2.2 true bt260.1 bt260.2.1 bt260.2.2.1 bt260.2.2.2.1)) else (hornbooklaw04_TokStrings.j1 k x5 x15 x16 x17 bt260.2.2.2.2.2 true bt260.1 bt260.2.1 bt260.2.2.1 bt260.2.2.2.1))) else (hornbooklaw04_TokStrings.j1 k x5 x15 x16 x17 bt260.2.2.2.2.2 true bt260.1 bt260.2.1 bt260.2.2.1 bt260.2.2.2.1))) else (none))
def hornbooklaw04_TokStrings.j1 : Nat → Bool → Int → ByteArray → ByteArray → Int → Bool → Int → Int → Int → ByteArray → Option (Bool)
  | 0, _, _, _, _, _, _, _, _, _, _ => none
  | k + 1, x5, x15, x16, x17, x21, x88, x267000, x267001, x267002, x267003 => if x88 = true then (some false) else (if x15 = 0 then (if x5 = true then (if x21 = 0 then (some (x267000 == 0)) else (some false)) else (some false)) else (if x15 > 32 then (if x5 = true then (some (x21 == 5)) else (some false)) else (if x5 = true then (if x21 = 0 then (if x267000 = 5 then (if 1 ≤ (x16.size : Int) then (if 1 ≤ (x17.size : Int) then (if (x16.extract 1 x16.size).size + (x17.extract 1 x17.size).size ≤ 9223372036854775807 then (some (x267003.toList == ((x16.extract 1 x16.size) ++ (x17.extract 1 x17.size)).toList)) else (none)) else (none)) else (none)) else (some false)) else (some false)) else (some false))))
end
def hornbooklaw04_TokStrings.f (k : Nat) (l0 : List Int) (a1 : Int) : Option (Bool) := (hornbooklaw04_awake.f k).bind fun t241 => (if (l0.length : Int) > 200 then (some t241) else ((tok_Show.f 5 0 0 (strOfNums l0)).bind fun t243 => ((tok_Next.f k t243 0).bind fun bt244 => ((tok_Show.f 4 0 0 (strOfNums l0)).bind fun t252 => ((tok_Next.f k t252 0).bind fun bt253 => (hornbooklaw04_TokStrings.l0 k t241 t243 bt244.2.2.2.2.1 bt244.2.2.2.2.2 bt253.2.2.2.2.2 (Go.bits .and .i64 a1 63) (⟨#[]⟩ : ByteArray) (⟨#[]⟩ : ByteArray) 0 5 0 0 (strOfNums l0) bt244.1 bt244.2.1 bt244.2.2.1 bt244.2.2.2.1 4 0 0 (strOfNums l0) bt253.1 bt253.2.1 bt253.2.2.1 bt253.2.2.2.1))))))
set_option maxHeartbeats 8000000 in
set_option maxRecDepth 100000 in
theorem hornbooklaw04_TokStrings.calls (k : Nat) (A0 : Option Addr) (c0 : Nat) (l0 : List Int) (a1 : Int) (r : Bool) (w : World) (hG : GW w) (hr0 : Kd.C (Kd.int .u8) w A0 l0.length l0) (hc0 : l0.length ≤ c0) (h : hornbooklaw04_TokStrings.f k l0 a1 = some r) :
    Calls Tryz.prog 5 #[.slice A0 l0.length c0, .int .i64 a1] w fun e w' => e = .returned (.bool r) ∧ Below w.heap.size w w' := by
  have hu31 := Tryz.underlying31
  have HR0 := Aside0.mk hr0
  have HC0 := Aside0.mk hc0
  clear hr0 hc0
  have HG := Aside0.mk hG
  clear hG
  have HB := Aside0.mk (Below.refl w.heap.size w)
  have H : ((hornbooklaw04_awake.f k).bind fun t241 => (if (l0.length : Int) > 200 then (some t241) else ((tok_Show.f 5 0 0 (strOfNums l0)).bind fun t243 => ((tok_Next.f k t243 0).bind fun bt244 => ((tok_Show.f 4 0 0 (strOfNums l0)).bind fun t252 => ((tok_Next.f k t252 0).bind fun bt253 => (hornbooklaw04_TokStrings.l0 k t241 t243 bt244.2.2.2.2.1 bt244.2.2.2.2.2 bt253.2.2.2.2.2 (Go.bits .and .i64 a1 63) (⟨#[]⟩ : ByteArray) (⟨#[]⟩ : ByteArray) 0 5 0 0 (strOfNums l0) bt244.1 bt244.2.1 bt244.2.2.1 bt244.2.2.2.1 4 0 0 (strOfNums l0) bt253.1 bt253.2.1 bt253.2.2.1 bt253.2.2.2.1))))))) = some r := h
  clear h
  replace H := Option.bind_eq_some_iff.mp H
  obtain ⟨t241, A30, H⟩ := H
  replace H : (if (l0.length : Int) > 200 then (some t241) else ((tok_Show.f 5 0 0 (strOfNums l0)).bind fun t243 => ((tok_Next.f k t243 0).bind fun bt244 => ((tok_Show.f 4 0 0 (strOfNums l0)).bind fun t252 => ((tok_Next.f k t252 0).bind fun bt253 => (hornbooklaw04_TokStrings.l0 k t241 t243 bt244.2.2.2.2.1 bt244.2.2.2.2.2 bt253.2.2.2.2.2 (Go.bits .and .i64 a1 63) (⟨#[]⟩ : ByteArray) (⟨#[]⟩ : ByteArray) 0 5 0 0 (strOfNums l0) bt244.1 bt244.2.1 bt244.2.2.1 bt244.2.2.2.1 4 0 0 (strOfNums l0) bt253.1 bt253.2.1 bt253.2.2.1 bt253.2.2.2.1)))))) = some r := H
  have A3 := Aside0.mk A30
  clear A30
  by_cases c4 : (l0.length : Int) > 200
  · rw [if_pos c4] at H
    have c4b0 : decide (200 < (l0.length : Int)) = true := decide_eq_true c4
    have c4b1 : decide (200 < l0.length) = true := decide_eq_true (by omega)
    clear c4
    obtain rfl := Option.some.inj H
    go_enter Tryz.func5, Tryz.ntmps5
    go_wp2_with (first | (go_at_call 8; (with_reducible refine (hornbooklaw04_awake.calls k  t241 _ ?side1 A3.out).mono ?_); (case side1 => exact GW.below (by repeat (first | (with_reducible first | exact HB.out | apply below_alloc | apply pw_below_drewN | apply below_drew1) | exact HB.out)) HG.out); rintro e w5 ⟨rfl, hb⟩; have n0_ := Aside0.mk (below_step (by repeat (first | (with_reducible first | exact HB.out | apply below_alloc | apply pw_below_drewN | apply below_drew1) | exact HB.out)) hb); clear HB; have HB := n0_; clear n0_; (try clear hb); (try clear hb2); (try clear hk); (try clear hi)))
    repeat (go_quiet (first | (go_at_call 8; (with_reducible refine (hornbooklaw04_awake.calls k  t241 _ ?side1 A3.out).mono ?_); (case side1 => exact GW.below (by repeat (first | (with_reducible first | exact HB.out | apply below_alloc | apply pw_below_drewN | apply below_drew1) | exact HB.out)) HG.out); rintro e w5 ⟨rfl, hb⟩; have n0_ := Aside0.mk (below_step (by repeat (first | (with_reducible first | exact HB.out | apply below_alloc | apply pw_below_drewN | apply below_drew1) | exact HB.out)) hb); clear HB; have HB := n0_; clear n0_; (try clear hb); (try clear hb2); (try clear hk); (try clear hi))); try go_wp2_with (first | (go_at_call 8; (with_reducible refine (hornbooklaw04_awake.calls k  t241 _ ?side1 A3.out).mono ?_); (case side1 => exact GW.below (by repeat (first | (with_reducible first | exact HB.out | apply below_alloc | apply pw_below_drewN | apply below_drew1) | exact HB.out)) HG.out); rintro e w5 ⟨rfl, hb⟩; have n0_ := Aside0.mk (below_step (by repeat (first | (with_reducible first | exact HB.out | apply below_alloc | apply pw_below_drewN | apply below_drew1) | exact HB.out)) hb); clear HB; have HB := n0_; clear n0_; (try clear hb); (try clear hb2); (try clear hk); (try clear hi))))
    go_ret
    exact ⟨by first | rfl | (simp [errW_none, errW_some] <;> rfl) | (simp [*, errW_none, errW_some] <;> rfl), by repeat (first | (with_reducible first | exact HB.out | apply below_alloc | apply pw_below_drewN | apply below_drew1) | exact HB.out)⟩
  · rw [if_neg c4] at H
    have c4b0 : decide (200 < (l0.length : Int)) = false := decide_eq_false c4
    have c4b1 : decide (200 < l0.length) = false := decide_eq_false (by omega)
    clear c4
    replace H := Option.bind_eq_some_iff.mp H
    obtain ⟨t243, A60, H⟩ := H
    replace H : ((tok_Next.f k t243 0).bind fun bt244 => ((tok_Show.f 4 0 0 (strOfNums l0)).bind fun t252 => ((tok_Next.f k t252 0).bind fun bt253 => (hornbooklaw04_TokStrings.l0 k t241 t243 bt244.2.2.2.2.1 bt244.2.2.2.2.2 bt253.2.2.2.2.2 (Go.bits .and .i64 a1 63) (⟨#[]⟩ : ByteArray) (⟨#[]⟩ : ByteArray) 0 5 0 0 (strOfNums l0) bt244.1 bt244.2.1 bt244.2.2.1 bt244.2.2.2.1 4 0 0 (strOfNums l0) bt253.1 bt253.2.1 bt253.2.2.1 bt253.2.2.2.1)))) = some r := H
    have A6 := Aside0.mk A60
    clear A60
    replace H := Option.bind_eq_some_iff.mp H
    obtain ⟨⟨t244, t245, t246, t247, t248, t249⟩, A70, H⟩ := H
    replace H : ((tok_Show.f 4 0 0 (strOfNums l0)).bind fun t252 => ((tok_Next.f k t252 0).bind fun bt253 => (hornbooklaw04_TokStrings.l0 k t241 t243 t248 t249 bt253.2.2.2.2.2 (Go.bits .and .i64 a1 63) (⟨#[]⟩ : ByteArray) (⟨#[]⟩ : ByteArray) 0 5 0 0 (strOfNums l0) t244 t245 t246 t247 4 0 0 (strOfNums l0) bt253.1 bt253.2.1 bt253.2.2.1 bt253.2.2.2.1))) = some r := H
    have A7 := Aside0.mk A70
    clear A70
    replace H := Option.bind_eq_some_iff.mp H
    obtain ⟨t252, A80, H⟩ := H
    replace H : ((tok_Next.f k t252 0).bind fun bt253 => (hornbooklaw04_TokStrings.l0 k t241 t243 t248 t249 bt253.2.2.2.2.2 (Go.bits .and .i64 a1 63) (⟨#[]⟩ : ByteArray) (⟨#[]⟩ : ByteArray) 0 5 0 0 (strOfNums l0) t244 t245 t246 t247 4 0 0 (strOfNums l0) bt253.1 bt253.2.1 bt253.2.2.1 bt253.2.2.2.1)) = some r := H
    have A8 := Aside0.mk A80
    clear A80
    replace H := Option.bind_eq_some_iff.mp H
    obtain ⟨⟨t253, t254, t255, t256, t257, t258⟩, A90, H⟩ := H
    replace H : (hornbooklaw04_TokStrings.l0 k t241 t243 t248 t249 t258 (Go.bits .and .i64 a1 63) (⟨#[]⟩ : ByteArray) (⟨#[]⟩ : ByteArray) 0 5 0 0 (strOfNums l0) t244 t245 t246 t247 4 0 0 (strOfNums l0) t253 t254 t255 t256) = some r := H
    have A9 := Aside0.mk A90
    clear A90
    have H' := Aside0.mk H
    clear H
    go_enter Tryz.func5, Tryz.ntmps5
    go_wp2_with (first | (go_at_call 8; (with_reducible refine (hornbooklaw04_awake.calls k  t241 _ ?side1 A3.out).mono ?_); (case side1 => exact GW.below (by repeat (first | (with_reducible first | exact HB.out | apply below_alloc | apply pw_below_drewN | apply below_drew1) | exact HB.out)) HG.out); rintro e w10 ⟨rfl, hb⟩; have n0_ := Aside0.mk (below_step (by repeat (first | (with_reducible first | exact HB.out | apply below_alloc | apply pw_below_drewN | apply below_drew1) | exact HB.out)) hb); clear HB; have HB := n0_; clear n0_; (try clear hb); (try clear hb2); (try clear hk); (try clear hi); have hcv11 := Kd.C_string (P := Tryz.prog) (A := A0) (c := c0) Tryz.underlying35 Tryz.underlying5 Tryz.underlying9 (Kd.C_below HR0.out HB.out)) | ((with_reducible refine gate_dst (N := 6) rfl ?_); (try (refine gate_guard (by rfl) ?_; dsimp only)); refine box_event ?hg (N := 6) ?hd (cs := #[.int .i64 0, .int .i64 0, .int .i64 0, .string (⟨#[]⟩ : ByteArray)]) (t := 31) ?hr ?_; (case hd => rfl); (case hg => rfl); (case hr => first | (go_simp; done) | (go_simp; rfl)); intro gb242 hg w12 hbox hb; have n0_ := Aside0.mk (below_step (by repeat (first | (with_reducible first | exact HB.out | apply below_alloc | apply pw_below_drewN | apply below_drew1) | exact HB.out)) hb); have n1_ := Aside0.mk (hbox); have n2_ := Aside0.mk ((by rw [hg]; exact (below_size (by repeat (first | (with_reducible first | exact HB.out | apply below_alloc | apply pw_below_drewN | apply below_drew1) | exact HB.out))) : w.heap.size ≤ gb242)); have n3_ := Aside0.mk ((by rw [hg]; exact (below_size (by repeat (first | (with_reducible first | exact HB.out | apply below_alloc | apply pw_below_drewN | apply below_drew1) | exact HB.out))) : w.heap.size ≤ gb242)); clear HB; have HB := n0_; have BK242 := n1_; have GW242 := n2_; have GE242 := n3_; clear n0_ n1_ n2_ n3_; clear hb hbox hg; have hcz13_0 : w12.cell? ⟨gb242, 0, none⟩ = some (.int .i64 0) := (blk_cell BK242.out 0).trans rfl; have hcz13_1 : w12.cell? ⟨gb242, 1, none⟩ = some (.int .i64 0) := (blk_cell BK242.out 1).trans rfl; have hcz13_2 : w12.cell? ⟨gb242, 2, none⟩ = some (.int .i64 0) := (blk_cell BK242.out 2).trans rfl; have hcz13_3 : w12.cell? ⟨gb242, 3, none⟩ = some (.string (⟨#[]⟩ : ByteArray)) := (blk_cell BK242.out 3).trans rfl; have hfz13_0 := blk_frozen BK242.out 0; have hfz13_1 := blk_frozen BK242.out 1; have hfz13_2 := blk_frozen BK242.out 2; have hfz13_3 := blk_frozen BK242.out 3) | (go_at_call 14; (with_reducible refine (tok_Show.calls 5 0 0 (strOfNums l0) t243 _ ?side1 A6.out).mono ?_); (case side1 => exact GW.below (by repeat (first | (with_reducible first | exact HB.out | apply below_alloc | apply pw_below_drewN | apply below_drew1 | refine below_set ?_ GE242.out) | exact HB.out)) HG.out); rintro e w14 ⟨rfl, hb⟩; have n0_ := Aside0.mk (blk_below (g := gb242) (o := .cells #[.int .i64 5, .int .i64 0, .int .i64 0, .string (strOfNums l0)] 31 (0, 0)) (by (with_reducible repeat (first | refine blk_drewN ?_ _ | refine blk_drew ?_ | refine blk_alloc ?_ _)); refine blk_put (cs := #[.int .i64 5, .int .i64 0, .int .i64 0, .string (⟨#[]⟩ : ByteArray)]) ?_ 3 _ rfl; (with_reducible repeat (first | refine blk_drewN ?_ _ | refine blk_drew ?_ | refine blk_alloc ?_ _)); refine blk_put (cs := #[.int .i64 5, .int .i64 0, .int .i64 0, .string (⟨#[]⟩ : ByteArray)]) ?_ 2 _ rfl; (with_reducible repeat (first | refine blk_drewN ?_ _ | refine blk_drew ?_ | refine blk_alloc ?_ _)); refine blk_put (cs := #[.int .i64 5, .int .i64 0, .int .i64 0, .string (⟨#[]⟩ : ByteArray)]) ?_ 1 _ rfl; (with_reducible repeat (first | refine blk_drewN ?_ _ | refine blk_drew ?_ | refine blk_alloc ?_ _)); refine blk_put (cs := #[.int .i64 0, .int .i64 0, .int .i64 0, .string (⟨#[]⟩ : ByteArray)]) ?_ 0 _ rfl; (with_reducible repeat (first | refine blk_drewN ?_ _ | refine blk_drew ?_ | refine blk_alloc ?_ _)); exact BK242.out) hb); have n1_ := Aside0.mk (below_step (by repeat (first | (with_reducible first | exact HB.out | apply below_alloc | apply pw_below_drewN | apply below_drew1 | refine below_set ?_ GE242.out) | exact HB.out)) hb); clear BK242; clear HB; have BK242 := n0_; have HB := n1_; clear n0_ n1_; (try clear hb); (try clear hb2); (try clear hk); (try clear hi)) | (go_at_call 13; (with_reducible refine (tok_Next.calls k t243 0 t244 t245 t246 t247 t248 t249 _ ?side1 A7.out).mono ?_); (case side1 => exact GW.below (by repeat (first | (with_reducible first | exact HB.out | apply below_alloc | apply pw_below_drewN | apply below_drew1 | refine below_set ?_ GE242.out) | exact HB.out)) HG.out); rintro e w15 ⟨rfl, hb⟩; have n0_ := Aside0.mk (blk_below (g := gb242) (o := .cells #[.int .i64 5, .int .i64 0, .int .i64 0, .string (strOfNums l0)] 31 (0, 0)) (by (with_reducible repeat (first | refine blk_drewN ?_ _ | refine blk_drew ?_ | refine blk_alloc ?_ _)); exact BK242.out) hb); have n1_ := Aside0.mk (below_step (by repeat (first | (with_reducible first | exact HB.out | apply below_alloc | apply pw_below_drewN | apply below_drew1 | refine below_set ?_ GE242.out) | exact HB.out)) hb); clear BK242; clear HB; have BK242 := n0_; have HB := n1_; clear n0_ n1_; (try clear hb); (try clear hb2); (try clear hk); (try clear hi)) | ((with_reducible refine gate_dst (N := 8) rfl ?_); (try (refine gate_guard (by rfl) ?_; dsimp only)); refine box_event ?hg (N := 8) ?hd (cs := #[.int .i64 0, .int .i64 0, .int .i64 0, .string (⟨#[]⟩ : ByteArray)]) (t := 31) ?hr ?_; (case hd => rfl); (case hg => rfl); (case hr => first | (go_simp; done) | (go_simp; rfl)); intro gb250 hg w16 hbox hb; have n0_ := Aside0.mk (blk_below (g := gb242) (o := .cells #[.int .i64 5, .int .i64 0, .int .i64 0, .string (strOfNums l0)] 31 (0, 0)) (by (with_reducible repeat (first | refine blk_drewN ?_ _ | refine blk_drew ?_ | refine blk_alloc ?_ _)); exact BK242.out) hb); have n1_ := Aside0.mk (below_step (by repeat (first | (with_reducible first | exact HB.out | apply below_alloc | apply pw_below_drewN | apply below_drew1 | refine below_set ?_ GE242.out) | exact HB.out)) hb); have n2_ := Aside0.mk (hbox); have n3_ := Aside0.mk ((by rw [hg]; exact (below_size (by repeat (first | (with_reducible first | exact HB.out | apply below_alloc | apply pw_below_drewN | apply below_drew1 | refine below_set ?_ GE242.out) | exact HB.out))) : w.heap.size ≤ gb250)); have n4_ := Aside0.mk ((by rw [hg]; exact (below_size (by repeat (first | (with_reducible first | exact HB.out | apply below_alloc | apply pw_below_drewN | apply below_drew1 | refine below_set ?_ GE242.out) | exact HB.out))) : w.heap.size ≤ gb250)); have n5_ := Aside0.mk ((by rw [hg]; exact Nat.ne_of_lt (blk_lt (g := gb242) (o := .cells #[.int .i64 5, .int .i64 0, .int .i64 0, .string (strOfNums l0)] 31 (0, 0)) (by (with_reducible repeat (first | refine blk_drewN ?_ _ | refine blk_drew ?_ | refine blk_alloc ?_ _)); exact BK242.out)) : gb242 ≠ gb250)); have n6_ := Aside0.mk ((by rw [hg]; exact Nat.ne_of_gt (blk_lt (g := gb242) (o := .cells #[.int .i64 5, .int .i64 0, .int .i64 0, .string (strOfNums l0)] 31 (0, 0)) (by (with_reducible repeat (first | refine blk_drewN ?_ _ | refine blk_drew ?_ | refine blk_alloc ?_ _)); exact BK242.out)) : gb250 ≠ gb242)); clear BK242; clear HB; have BK242 := n0_; have HB := n1_; have BK250 := n2_; have GW250 := n3_; have GE250 := n4_; have NB242_250 := n5_; have NB250_242 := n6_; clear n0_ n1_ n2_ n3_ n4_ n5_ n6_; clear hb hbox hg; have hnb17 := NB250_242.out; have hnc17 := NB242_250.out; have hcz18_0 : w16.cell? ⟨gb250, 0, none⟩ = some (.int .i64 0) := (blk_cell BK250.out 0).trans rfl; have hcz18_1 : w16.cell? ⟨gb250, 1, none⟩ = some (.int .i64 0) := (blk_cell BK250.out 1).trans rfl; have hcz18_2 : w16.cell? ⟨gb250, 2, none⟩ = some (.int .i64 0) := (blk_cell BK250.out 2).trans rfl; have hcz18_3 : w16.cell? ⟨gb250, 3, none⟩ = some (.string (⟨#[]⟩ : ByteArray)) := (blk_cell BK250.out 3).trans rfl; have hfz18_0 := blk_frozen BK250.out 0; have hfz18_1 := blk_frozen BK250.out 1; have hfz18_2 := blk_frozen BK250.out 2; have hfz18_3 := blk_frozen BK250.out 3; have hcv19 := Kd.C_string (P := Tryz.prog) (A := A0) (c := c0) Tryz.underlying35 Tryz.underlying5 Tryz.underlying9 (Kd.C_below HR0.out HB.out); have hcv19_s : ∀ v0_ v1_ v2_ v3_ : Value, Sem.run Tryz.prog (convert 35 9 (.slice A0 l0.length c0)) ((((w16.setCell ⟨gb250, 0, none⟩ v0_).setCell ⟨gb250, 1, none⟩ v1_).setCell ⟨gb250, 2, none⟩ v2_).setCell ⟨gb250, 3, none⟩ v3_) = .ok (.string (strOfNums l0)) ((((w16.setCell ⟨gb250, 0, none⟩ v0_).setCell ⟨gb250, 1, none⟩ v1_).setCell ⟨gb250, 2, none⟩ v2_).setCell ⟨gb250, 3, none⟩ v3_) := fun v0_ v1_ v2_ v3_ => Kd.C_string (P := Tryz.prog) (A := A0) (c := c0) Tryz.underlying35 Tryz.underlying5 Tryz.underlying9 (Kd.C_below HR0.out (below_set (below_set (below_set (below_set HB.out GE250.out) GE250.out) GE250.out) GE250.out))) | ((with_reducible refine gate_dst (N := 11) rfl ?_); (try (refine gate_guard (by rfl) ?_; dsimp only)); refine box_event ?hg (N := 11) ?hd (cs := #[.int .i64 0, .int .i64 0, .int .i64 0, .string (⟨#[]⟩ : ByteArray)]) (t := 31) ?hr ?_; (case hd => rfl); (case hg => rfl); (case hr => first | (go_simp; done) | (go_simp; rfl)); intro gb251 hg w20 hbox hb; have n0_ := Aside0.mk (blk_below (g := gb242) (o := .cells #[.int .i64 5, .int .i64 0, .int .i64 0, .string (strOfNums l0)] 31 (0, 0)) (by (with_reducible repeat (first | refine blk_drewN ?_ _ | refine blk_drew ?_ | refine blk_alloc ?_ _)); refine blk_far ?_ NB242_250.out _; (with_reducible repeat (first | refine blk_drewN ?_ _ | refine blk_drew ?_ | refine blk_alloc ?_ _)); refine blk_far ?_ NB242_250.out _; (with_reducible repeat (first | refine blk_drewN ?_ _ | refine blk_drew ?_ | refine blk_alloc ?_ _)); refine blk_far ?_ NB242_250.out _; (with_reducible repeat (first | refine blk_drewN ?_ _ | refine blk_drew ?_ | refine blk_alloc ?_ _)); refine blk_far ?_ NB242_250.out _; (with_reducible repeat (first | refine blk_drewN ?_ _ | refine blk_drew ?_ | refine blk_alloc ?_ _)); exact BK242.out) hb); have n1_ := Aside0.mk (blk_below (g := gb250) (o := .cells #[.int .i64 t244, .int .i64 t245, .int .i64 t246, .string t247] 31 (0, 0)) (by (with_reducible repeat (first | refine blk_drewN ?_ _ | refine blk_drew ?_ | refine blk_alloc ?_ _)); refine blk_put (cs := #[.int .i64 t244, .int .i64 t245, .int .i64 t246, .string (⟨#[]⟩ : ByteArray)]) ?_ 3 _ rfl; (with_reducible repeat (first | refine blk_drewN ?_ _ | refine blk_drew ?_ | refine blk_alloc ?_ _)); refine blk_put (cs := #[.int .i64 t244, .int .i64 t245, .int .i64 0, .string (⟨#[]⟩ : ByteArray)]) ?_ 2 _ rfl; (with_reducible repeat (first | refine blk_drewN ?_ _ | refine blk_drew ?_ | refine blk_alloc ?_ _)); refine blk_put (cs := #[.int .i64 t244, .int .i64 0, .int .i64 0, .string (⟨#[]⟩ : ByteArray)]) ?_ 1 _ rfl; (with_reducible repeat (first | refine blk_drewN ?_ _ | refine blk_drew ?_ | refine blk_alloc ?_ _)); refine blk_put (cs := #[.int .i64 0, .int .i64 0, .int .i64 0, .string (⟨#[]⟩ : ByteArray)]) ?_ 0 _ rfl; (with_reducible repeat (first | refine blk_drewN ?_ _ | refine blk_drew ?_ | refine blk_alloc ?_ _)); exact BK250.out) hb); have n2_ := Aside0.mk (below_step (by repeat (first | (with_reducible first | exact HB.out | apply below_alloc | apply pw_below_drewN | apply below_drew1 | refine below_set ?_ GE242.out | refine below_set ?_ GE250.out) | exact HB.out)) hb); have n3_ := Aside0.mk (hbox); have n4_ := Aside0.mk ((by rw [hg]; exact (below_size (by repeat (first | (with_reducible first | exact HB.out | apply below_alloc | apply pw_below_drewN | apply below_drew1 | refine below_set ?_ GE242.out | refine below_set ?_ GE250.out) | exact HB.out))) : w.heap.size ≤ gb251)); have n5_ := Aside0.mk ((by rw [hg]; exact (below_size (by repeat (first | (with_reducible first | exact HB.out | apply below_alloc | apply pw_below_drewN | apply below_drew1 | refine below_set ?_ GE242.out | refine below_set ?_ GE250.out) | exact HB.out))) : w.heap.size ≤ gb251)); have n6_ := Aside0.mk ((by rw [hg]; exact Nat.ne_of_lt (blk_lt (g := gb242) (o := .cells #[.int .i64 5, .int .i64 0, .int .i64 0, .string (strOfNums l0)] 31 (0, 0)) (by (with_reducible repeat (first | refine blk_drewN ?_ _ | refine blk_drew ?_ | refine blk_alloc ?_ _)); refine blk_far ?_ NB242_250.out _; (with_reducible repeat (first | refine blk_drewN ?_ _ | refine blk_drew ?_ | refine blk_alloc ?_ _)); refine blk_far ?_ NB242_250.out _; (with_reducible repeat (first | refine blk_drewN ?_ _ | refine blk_drew ?_ | refine blk_alloc ?_ _)); refine blk_far ?_ NB242_250.out _; (with_reducible repeat (first | refine blk_drewN ?_ _ | refine blk_drew ?_ | refine blk_alloc ?_ _)); refine blk_far ?_ NB242_250.out _; (with_reducible repeat (first | refine blk_drewN ?_ _ | refine blk_drew ?_ | refine blk_alloc ?_ _)); exact BK242.out)) : gb242 ≠ gb251)); have n7_ := Aside0.mk ((by rw [hg]; exact Nat.ne_of_gt (blk_lt (g := gb242) (o := .cells #[.int .i64 5, .int .i64 0, .int .i64 0, .string (strOfNums l0)] 31 (0, 0)) (by (with_reducible repeat (first | refine blk_drewN ?_ _ | refine blk_drew ?_ | refine blk_alloc ?_ _)); refine blk_far ?_ NB242_250.out _; (with_reducible repeat (first | refine blk_drewN ?_ _ | refine blk_drew ?_ | refine blk_alloc ?_ _)); refine blk_far ?_ NB242_250.out _; (with_reducible repeat (first | refine blk_drewN ?_ _ | refine blk_drew ?_ | refine blk_alloc ?_ _)); refine blk_far ?_ NB242_250.out _; (with_reducible repeat (first | refine blk_drewN ?_ _ | refine blk_drew ?_ | refine blk_alloc ?_ _)); refine blk_far ?_ NB242_250.out _; (with_reducible repeat (first | refine blk_drewN ?_ _ | refine blk_drew ?_ | refine blk_alloc ?_ _)); exact BK242.out)) : gb251 ≠ gb242)); have n8_ := Aside0.mk ((by rw [hg]; exact Nat.ne_of_lt (blk_lt (g := gb250) (o := .cells #[.int .i64 t244, .int .i64 t245, .int .i64 t246, .string t247] 31 (0, 0)) (by (with_reducible repeat (first | refine blk_drewN ?_ _ | refine blk_drew ?_ | refine blk_alloc ?_ _)); refine blk_put (cs := #[.int .i64 t244, .int .i64 t245, .int .i64 t246, .string (⟨#[]⟩ : ByteArray)]) ?_ 3 _ rfl; (with_reducible repeat (first | refine blk_drewN ?_ _ | refine blk_drew ?_ | refine blk_alloc ?_ _)); refine blk_put (cs := #[.int .i64 t244, .int .i64 t245, .int .i64 0, .string (⟨#[]⟩ : ByteArray)]) ?_ 2 _ rfl; (with_reducible repeat (first | refine blk_drewN ?_ _ | refine blk_drew ?_ | refine blk_alloc ?_ _)); refine blk_put (cs := #[.int .i64 t244, .int .i64 0, .int .i64 0, .string (⟨#[]⟩ : ByteArray)]) ?_ 1 _ rfl; (with_reducible repeat (first | refine blk_drewN ?_ _ | refine blk_drew ?_ | refine blk_alloc ?_ _)); refine blk_put (cs := #[.int .i64 0, .int .i64 0, .int .i64 0, .string (⟨#[]⟩ : ByteArray)]) ?_ 0 _ rfl; (with_reducible repeat (first | refine blk_drewN ?_ _ | refine blk_drew ?_ | refine blk_alloc ?_ _)); exact BK250.out)) : gb250 ≠ gb251)); have n9_ := Aside0.mk ((by rw [hg]; exact Nat.ne_of_gt (blk_lt (g := gb250) (o := .cells #[.int .i64 t244, .int .i64 t245, .int .i64 t246, .string t247] 31 (0, 0)) (by (with_reducible repeat (first | refine blk_drewN ?_ _ | refine blk_drew ?_ | refine blk_alloc ?_ _)); refine blk_put (cs := #[.int .i64 t244, .int .i64 t245, .int .i64 t246, .string (⟨#[]⟩ : ByteArray)]) ?_ 3 _ rfl; (with_reducible repeat (first | refine blk_drewN ?_ _ | refine blk_drew ?_ | refine blk_alloc ?_ _)); refine blk_put (cs := #[.int .i64 t244, .int .i64 t245, .int .i64 0, .string (⟨#[]⟩ : ByteArray)]) ?_ 2 _ rfl; (with_reducible repeat (first | refine blk_drewN ?_ _ | refine blk_drew ?_ | refine blk_alloc ?_ _)); refine blk_put (cs := #[.int .i64 t244, .int .i64 0, .int .i64 0, .string (⟨#[]⟩ : ByteArray)]) ?_ 1 _ rfl; (with_reducible repeat (first | refine blk_drewN ?_ _ | refine blk_drew ?_ | refine blk_alloc ?_ _)); refine blk_put (cs := #[.int .i64 0, .int .i64 0, .int .i64 0, .string (⟨#[]⟩ : ByteArray)]) ?_ 0 _ rfl; (with_reducible repeat (first | refine blk_drewN ?_ _ | refine blk_drew ?_ | refine blk_alloc ?_ _)); exact BK250.out)) : gb251 ≠ gb250)); clear BK242; clear BK250; clear HB; have BK242 := n0_; have BK250 := n1_; have HB := n2_; have BK251 := n3_; have GW251 := n4_; have GE251 := n5_; have NB242_251 := n6_; have NB251_242 := n7_; have NB250_251 := n8_; have NB251_250 := n9_; clear n0_ n1_ n2_ n3_ n4_ n5_ n6_ n7_ n8_ n9_; clear hb hbox hg; have hnb21 := NB251_242.out; have hnc21 := NB242_251.out; have hnb22 := NB251_250.out; have hnc22 := NB250_251.out; have hcz23_0 : w20.cell? ⟨gb251, 0, none⟩ = some (.int .i64 0) := (blk_cell BK251.out 0).trans rfl; have hcz23_1 : w20.cell? ⟨gb251, 1, none⟩ = some (.int .i64 0) := (blk_cell BK251.out 1).trans rfl; have hcz23_2 : w20.cell? ⟨gb251, 2, none⟩ = some (.int .i64 0) := (blk_cell BK251.out 2).trans rfl; have hcz23_3 : w20.cell? ⟨gb251, 3, none⟩ = some (.string (⟨#[]⟩ : ByteArray)) := (blk_cell BK251.out 3).trans rfl; have hfz23_0 := blk_frozen BK251.out 0; have hfz23_1 := blk_frozen BK251.out 1; have hfz23_2 := blk_frozen BK251.out 2; have hfz23_3 := blk_frozen BK251.out 3) | (go_at_call 14; (with_reducible refine (tok_Show.calls 4 0 0 (strOfNums l0) t252 _ ?side1 A8.out).mono ?_); (case side1 => exact GW.below (by repeat (first | (with_reducible first | exact HB.out | apply below_alloc | apply pw_below_drewN | apply below_drew1 | refine below_set ?_ GE242.out | refine below_set ?_ GE250.out | refine below_set ?_ GE251.out) | exact HB.out)) HG.out); rintro e w24 ⟨rfl, hb⟩; have n0_ := Aside0.mk (blk_below (g := gb242) (o := .cells #[.int .i64 5, .int .i64 0, .int .i64 0, .string (strOfNums l0)] 31 (0, 0)) (by (with_reducible repeat (first | refine blk_drewN ?_ _ | refine blk_drew ?_ | refine blk_alloc ?_ _)); refine blk_far ?_ NB242_251.out _; (with_reducible repeat (first | refine blk_drewN ?_ _ | refine blk_drew ?_ | refine blk_alloc ?_ _)); refine blk_far ?_ NB242_251.out _; (with_reducible repeat (first | refine blk_drewN ?_ _ | refine blk_drew ?_ | refine blk_alloc ?_ _)); refine blk_far ?_ NB242_251.out _; (with_reducible repeat (first | refine blk_drewN ?_ _ | refine blk_drew ?_ | refine blk_alloc ?_ _)); refine blk_far ?_ NB242_251.out _; (with_reducible repeat (first | refine blk_drewN ?_ _ | refine blk_drew ?_ | refine blk_alloc ?_ _)); exact BK242.out) hb); have n1_ := Aside0.mk (blk_below (g := gb250) (o := .cells #[.int .i64 t244, .int .i64 t245, .int .i64 t246, .string t247] 31 (0, 0)) (by (with_reducible repeat (first | refine blk_drewN ?_ _ | refine blk_drew ?_ | refine blk_alloc ?_ _)); refine blk_far ?_ NB250_251.out _; (with_reducible repeat (first | refine blk_drewN ?_ _ | refine blk_drew ?_ | refine blk_alloc ?_ _)); refine blk_far ?_ NB250_251.out _; (with_reducible repeat (first | refine blk_drewN ?_ _ | refine blk_drew ?_ | refine blk_alloc ?_ _)); refine blk_far ?_ NB250_251.out _; (with_reducible repeat (first | refine blk_drewN ?_ _ | refine blk_drew ?_ | refine blk_alloc ?_ _)); refine blk_far ?_ NB250_251.out _; (with_reducible repeat (first | refine blk_drewN ?_ _ | refine blk_drew ?_ | refine blk_alloc ?_ _)); exact BK250.out) hb); have n2_ := Aside0.mk (blk_below (g := gb251) (o := .cells #[.int .i64 4, .int .i64 0, .int .i64 0, .string (strOfNums l0)] 31 (0, 0)) (by (with_reducible repeat (first | refine blk_drewN ?_ _ | refine blk_drew ?_ | refine blk_alloc ?_ _)); refine blk_put (cs := #[.int .i64 4, .int .i64 0, .int .i64 0, .string (⟨#[]⟩ : ByteArray)]) ?_ 3 _ rfl; (with_reducible repeat (first | refine blk_drewN ?_ _ | refine blk_drew ?_ | refine blk_alloc ?_ _)); refine blk_put (cs := #[.int .i64 4, .int .i64 0, .int .i64 0, .string (⟨#[]⟩ : ByteArray)]) ?_ 2 _ rfl; (with_reducible repeat (first | refine blk_drewN ?_ _ | refine blk_drew ?_ | refine blk_alloc ?_ _)); refine blk_put (cs := #[.int .i64 4, .int .i64 0, .int .i64 0, .string (⟨#[]⟩ : ByteArray)]) ?_ 1 _ rfl; (with_reducible repeat (first | refine blk_drewN ?_ _ | refine blk_drew ?_ | refine blk_alloc ?_ _)); refine blk_put (cs := #[.int .i64 0, .int .i64 0, .int .i64 0, .string (⟨#[]⟩ : ByteArray)]) ?_ 0 _ rfl; (with_reducible repeat (first | refine blk_drewN ?_ _ | refine blk_drew ?_ | refine blk_alloc ?_ _)); exact BK251.out) hb); have n3_ := Aside0.mk (below_step (by repeat (first | (with_reducible first | exact HB.out | apply below_alloc | apply pw_below_drewN | apply below_drew1 | refine below_set ?_ GE242.out | refine below_set ?_ GE250.out | refine below_set ?_ GE251.out) | exact HB.out)) hb); clear BK242; clear BK250; clear BK251; clear HB; have BK242 := n0_; have BK250 := n1_; have BK251 := n2_; have HB := n3_; clear n0_ n1_ n2_ n3_; (try clear hb); (try clear hb2); (try clear hk); (try clear hi)) | (go_at_call 13; (with_reducible refine (tok_Next.calls k t252 0 t253 t254 t255 t256 t257 t258 _ ?side1 A9.out).mono ?_); (case side1 => exact GW.below (by repeat (first | (with_reducible first | exact HB.out | apply below_alloc | apply pw_below_drewN | apply below_drew1 | refine below_set ?_ GE242.out | refine below_set ?_ GE250.out | refine below_set ?_ GE251.out) | exact HB.out)) HG.out); rintro e w25 ⟨rfl, hb⟩; have n0_ := Aside0.mk (blk_below (g := gb242) (o := .cells #[.int .i64 5, .int .i64 0, .int .i64 0, .string (strOfNums l0)] 31 (0, 0)) (by (with_reducible repeat (first | refine blk_drewN ?_ _ | refine blk_drew ?_ | refine blk_alloc ?_ _)); exact BK242.out) hb); have n1_ := Aside0.mk (blk_below (g := gb250) (o := .cells #[.int .i64 t244, .int .i64 t245, .int .i64 t246, .string t247] 31 (0, 0)) (by (with_reducible repeat (first | refine blk_drewN ?_ _ | refine blk_drew ?_ | refine blk_alloc ?_ _)); exact BK250.out) hb); have n2_ := Aside0.mk (blk_below (g := gb251) (o := .cells #[.int .i64 4, .int .i64 0, .int .i64 0, .string (strOfNums l0)] 31 (0, 0)) (by (with_reducible repeat (first | refine blk_drewN ?_ _ | refine blk_drew ?_ | refine blk_alloc ?_ _)); exact BK251.out) hb); have n3_ := Aside0.mk (below_step (by repeat (first | (with_reducible first | exact HB.out | apply below_alloc | apply pw_below_drewN | apply below_drew1 | refine below_set ?_ GE242.out | refine below_set ?_ GE250.out | refine below_set ?_ GE251.out) | exact HB.out)) hb); clear BK242; clear BK250; clear BK251; clear HB; have BK242 := n0_; have BK250 := n1_; have BK251 := n2_; have HB := n3_; clear n0_ n1_ n2_ n3_; (try clear hb); (try clear hb2); (try clear hk); (try clear hi)) | ((with_reducible refine gate_dst (N := 12) rfl ?_); (try (refine gate_guard (by rfl) ?_; dsimp only)); refine box_event ?hg (N := 12) ?hd (cs := #[.int .i64 0, .int .i64 0, .int .i64 0, .string (⟨#[]⟩ : ByteArray)]) (t := 31) ?hr ?_; (case hd => rfl); (case hg => rfl); (case hr => first | (go_simp; done) | (go_simp; rfl)); intro gb259 hg w26 hbox hb; have n0_ := Aside0.mk (blk_below (g := gb242) (o := .cells #[.int .i64 5, .int .i64 0, .int .i64 0, .string (strOfNums l0)] 31 (0, 0)) (by (with_reducible repeat (first | refine blk_drewN ?_ _ | refine blk_drew ?_ | refine blk_alloc ?_ _)); exact BK242.out) hb); have n1_ := Aside0.mk (blk_below (g := gb250) (o := .cells #[.int .i64 t244, .int .i64 t245, .int .i64 t246, .string t247] 31 (0, 0)) (by (with_reducible repeat (first | refine blk_drewN ?_ _ | refine blk_drew ?_ | refine blk_alloc ?_ _)); exact BK250.out) hb); have n2_ := Aside0.mk (blk_below (g := gb251) (o := .cells #[.int .i64 4, .int .i64 0, .int .i64 0, .string (strOfNums l0)] 31 (0, 0)) (by (with_reducible repeat (first | refine blk_drewN ?_ _ | refine blk_drew ?_ | refine blk_alloc ?_ _)); exact BK251.out) hb); have n3_ := Aside0.mk (below_step (by repeat (first | (with_reducible first | exact HB.out | apply below_alloc | apply pw_below_drewN | apply below_drew1 | refine below_set ?_ GE242.out | refine below_set ?_ GE250.out | refine below_set ?_ GE251.out) | exact HB.out)) hb); have n4_ := Aside0.mk (hbox); have n5_ := Aside0.mk ((by rw [hg]; exact (below_size (by repeat (first | (with_reducible first | exact HB.out | apply below_alloc | apply pw_below_drewN | apply below_drew1 | refine below_set ?_ GE242.out | refine below_set ?_ GE250.out | refine below_set ?_ GE251.out) | exact HB.out))) : w.heap.size ≤ gb259)); have n6_ := Aside0.mk ((by rw [hg]; exact (below_size (by repeat (first | (with_reducible first | exact HB.out | apply below_alloc | apply pw_below_drewN | apply below_drew1 | refine below_set ?_ GE242.out | refine below_set ?_ GE250.out | refine below_set ?_ GE251.out) | exact HB.out))) : w.heap.size ≤ gb259)); have n7_ := Aside0.mk ((by rw [hg]; exact Nat.ne_of_lt (blk_lt (g := gb242) (o := .cells #[.int .i64 5, .int .i64 0, .int .i64 0, .string (strOfNums l0)] 31 (0, 0)) (by (with_reducible repeat (first | refine blk_drewN ?_ _ | refine blk_drew ?_ | refine blk_alloc ?_ _)); exact BK242.out)) : gb242 ≠ gb259)); have n8_ := Aside0.mk ((by rw [hg]; exact Nat.ne_of_gt (blk_lt (g := gb242) (o := .cells #[.int .i64 5, .int .i64 0, .int .i64 0, .string (strOfNums l0)] 31 (0, 0)) (by (with_reducible repeat (first | refine blk_drewN ?_ _ | refine blk_drew ?_ | refine blk_alloc ?_ _)); exact BK242.out)) : gb259 ≠ gb242)); have n9_ := Aside0.mk ((by rw [hg]; exact Nat.ne_of_lt (blk_lt (g := gb250) (o := .cells #[.int .i64 t244, .int .i64 t245, .int .i64 t246, .string t247] 31 (0, 0)) (by (with_reducible repeat (first | refine blk_drewN ?_ _ | refine blk_drew ?_ | refine blk_alloc ?_ _)); exact BK250.out)) : gb250 ≠ gb259)); have n10_ := Aside0.mk ((by rw [hg]; exact Nat.ne_of_gt (blk_lt (g := gb250) (o := .cells #[.int .i64 t244, .int .i64 t245, .int .i64 t246, .string t247] 31 (0, 0)) (by (with_reducible repeat (first | refine blk_drewN ?_ _ | refine blk_drew ?_ | refine blk_alloc ?_ _)); exact BK250.out)) : gb259 ≠ gb250)); have n11_ := Aside0.mk ((by rw [hg]; exact Nat.ne_of_lt (blk_lt (g := gb251) (o := .cells #[.int .i64 4, .int .i64 0, .int .i64 0, .string (strOfNums l0)] 31 (0, 0)) (by (with_reducible repeat (first | refine blk_drewN ?_ _ | refine blk_drew ?_ | refine blk_alloc ?_ _)); exact BK251.out)) : gb251 ≠ gb259)); have n12_ := Aside0.mk ((by rw [hg]; exact Nat.ne_of_gt (blk_lt (g := gb251) (o := .cells #[.int .i64 4, .int .i64 0, .int .i64 0, .string (strOfNums l0)] 31 (0, 0)) (by (with_reducible repeat (first | refine blk_drewN ?_ _ | refine blk_drew ?_ | refine blk_alloc ?_ _)); exact BK251.out)) : gb259 ≠ gb251)); clear BK242; clear BK250; clear BK251; clear HB; have BK242 := n0_; have BK250 := n1_; have BK251 := n2_; have HB := n3_; have BK259 := n4_; have GW259 := n5_; have GE259 := n6_; have NB242_259 := n7_; have NB259_242 := n8_; have NB250_259 := n9_; have NB259_250 := n10_; have NB251_259 := n11_; have NB259_251 := n12_; clear n0_ n1_ n2_ n3_ n4_ n5_ n6_ n7_ n8_ n9_ n10_ n11_ n12_; clear hb hbox hg; have hnb27 := NB259_242.out; have hnc27 := NB242_259.out; have hnb28 := NB259_250.out; have hnc28 := NB250_259.out; have hnb29 := NB259_251.out; have hnc29 := NB251_259.out; have hcz30_0 : w26.cell? ⟨gb259, 0, none⟩ = some (.int .i64 0) := (blk_cell BK259.out 0).trans rfl; have hcz30_1 : w26.cell? ⟨gb259, 1, none⟩ = some (.int .i64 0) := (blk_cell BK259.out 1).trans rfl; have hcz30_2 : w26.cell? ⟨gb259, 2, none⟩ = some (.int .i64 0) := (blk_cell BK259.out 2).trans rfl; have hcz30_3 : w26.cell? ⟨gb259, 3, none⟩ = some (.string (⟨#[]⟩ : ByteArray)) := (blk_cell BK259.out 3).trans rfl; have hfz30_0 := blk_frozen BK259.out 0; have hfz30_1 := blk_frozen BK259.out 1; have hfz30_2 := blk_frozen BK259.out 2; have hfz30_3 := blk_frozen BK259.out 3))
    repeat (go_quiet (first | (go_at_call 8; (with_reducible refine (hornbooklaw04_awake.calls k  t241 _ ?side1 A3.out).mono ?_); (case side1 => exact GW.below (by repeat (first | (with_reducible first | exact HB.out | apply below_alloc | apply pw_below_drewN | apply below_drew1) | exact HB.out)) HG.out); rintro e w10 ⟨rfl, hb⟩; have n0_ := Aside0.mk (below_step (by repeat (first | (with_reducible first | exact HB.out | apply below_alloc | apply pw_below_drewN | apply below_drew1) | exact HB.out)) hb); clear HB; have HB := n0_; clear n0_; (try clear hb); (try clear hb2); (try clear hk); (try clear hi); have hcv11 := Kd.C_string (P := Tryz.prog) (A := A0) (c := c0) Tryz.underlying35 Tryz.underlying5 Tryz.underlying9 (Kd.C_below HR0.out HB.out)) | ((with_reducible refine gate_dst (N := 6) rfl ?_); (try (refine gate_guard (by rfl) ?_; dsimp only)); refine box_event ?hg (N := 6) ?hd (cs := #[.int .i64 0, .int .i64 0, .int .i64 0, .string (⟨#[]⟩ : ByteArray)]) (t := 31) ?hr ?_; (case hd => rfl); (case hg => rfl); (case hr => first | (go_simp; done) | (go_simp; rfl)); intro gb242 hg w12 hbox hb; have n0_ := Aside0.mk (below_step (by repeat (first | (with_reducible first | exact HB.out | apply below_alloc | apply pw_below_drewN | apply below_drew1) | exact HB.out)) hb); have n1_ := Aside0.mk (hbox); have n2_ := Aside0.mk ((by rw [hg]; exact (below_size (by repeat (first | (with_reducible first | exact HB.out | apply below_alloc | apply pw_below_drewN | apply below_drew1) | exact HB.out))) : w.heap.size ≤ gb242)); have n3_ := Aside0.mk ((by rw [hg]; exact (below_size (by repeat (first | (with_reducible first | exact HB.out | apply below_alloc | apply pw_below_drewN | apply below_drew1) | exact HB.out))) : w.heap.size ≤ gb242)); clear HB; have HB := n0_; have BK242 := n1_; have GW242 := n2_; have GE242 := n3_; clear n0_ n1_ n2_ n3_; clear hb hbox hg; have hcz13_0 : w12.cell? ⟨gb242, 0, none⟩ = some (.int .i64 0) := (blk_cell BK242.out 0).trans rfl; have hcz13_1 : w12.cell? ⟨gb242, 1, none⟩ = some (.int .i64 0) := (blk_cell BK242.out 1).trans rfl; have hcz13_2 : w12.cell? ⟨gb242, 2, none⟩ = some (.int .i64 0) := (blk_cell BK242.out 2).trans rfl; have hcz13_3 : w12.cell? ⟨gb242, 3, none⟩ = some (.string (⟨#[]⟩ : ByteArray)) := (blk_cell BK242.out 3).trans rfl; have hfz13_0 := blk_frozen BK242.out 0; have hfz13_1 := blk_frozen BK242.out 1; have hfz13_2 := blk_frozen BK242.out 2; have hfz13_3 := blk_frozen BK242.out 3) | (go_at_call 14; (with_reducible refine (tok_Show.calls 5 0 0 (strOfNums l0) t243 _ ?side1 A6.out).mono ?_); (case side1 => exact GW.below (by repeat (first | (with_reducible first | exact HB.out | apply below_alloc | apply pw_below_drewN | apply below_drew1 | refine below_set ?_ GE242.out) | exact HB.out)) HG.out); rintro e w14 ⟨rfl, hb⟩; have n0_ := Aside0.mk (blk_below (g := gb242) (o := .cells #[.int .i64 5, .int .i64 0, .int .i64 0, .string (strOfNums l0)] 31 (0, 0)) (by (with_reducible repeat (first | refine blk_drewN ?_ _ | refine blk_drew ?_ | refine blk_alloc ?_ _)); refine blk_put (cs := #[.int .i64 5, .int .i64 0, .int .i64 0, .string (⟨#[]⟩ : ByteArray)]) ?_ 3 _ rfl; (with_reducible repeat (first | refine blk_drewN ?_ _ | refine blk_drew ?_ | refine blk_alloc ?_ _)); refine blk_put (cs := #[.int .i64 5, .int .i64 0, .int .i64 0, .string (⟨#[]⟩ : ByteArray)]) ?_ 2 _ rfl; (with_reducible repeat (first | refine blk_drewN ?_ _ | refine blk_drew ?_ | refine blk_alloc ?_ _)); refine blk_put (cs := #[.int .i64 5, .int .i64 0, .int .i64 0, .string (⟨#[]⟩ : ByteArray)]) ?_ 1 _ rfl; (with_reducible repeat (first | refine blk_drewN ?_ _ | refine blk_drew ?_ | refine blk_alloc ?_ _)); refine blk_put (cs := #[.int .i64 0, .int .i64 0, .int .i64 0, .string (⟨#[]⟩ : ByteArray)]) ?_ 0 _ rfl; (with_reducible repeat (first | refine blk_drewN ?_ _ | refine blk_drew ?_ | refine blk_alloc ?_ _)); exact BK242.out) hb); have n1_ := Aside0.mk (below_step (by repeat (first | (with_reducible first | exact HB.out | apply below_alloc | apply pw_below_drewN | apply below_drew1 | refine below_set ?_ GE242.out) | exact HB.out)) hb); clear BK242; clear HB; have BK242 := n0_; have HB := n1_; clear n0_ n1_; (try clear hb); (try clear hb2); (try clear hk); (try clear hi)) | (go_at_call 13; (with_reducible refine (tok_Next.calls k t243 0 t244 t245 t246 t247 t248 t249 _ ?side1 A7.out).mono ?_); (case side1 => exact GW.below (by repeat (first | (with_reducible first | exact HB.out | apply below_alloc | apply pw_below_drewN | apply below_drew1 | refine below_set ?_ GE242.out) | exact HB.out)) HG.out); rintro e w15 ⟨rfl, hb⟩; have n0_ := Aside0.mk (blk_below (g := gb242) (o := .cells #[.int .i64 5, .int .i64 0, .int .i64 0, .string (strOfNums l0)] 31 (0, 0)) (by (with_reducible repeat (first | refine blk_drewN ?_ _ | refine blk_drew ?_ | refine blk_alloc ?_ _)); exact BK242.out) hb); have n1_ := Aside0.mk (below_step (by repeat (first | (with_reducible first | exact HB.out | apply below_alloc | apply pw_below_drewN | apply below_drew1 | refine below_set ?_ GE242.out) | exact HB.out)) hb); clear BK242; clear HB; have BK242 := n0_; have HB := n1_; clear n0_ n1_; (try clear hb); (try clear hb2); (try clear hk); (try clear hi)) | ((with_reducible refine gate_dst (N := 8) rfl ?_); (try (refine gate_guard (by rfl) ?_; dsimp only)); refine box_event ?hg (N := 8) ?hd (cs := #[.int .i64 0, .int .i64 0, .int .i64 0, .string (⟨#[]⟩ : ByteArray)]) (t := 31) ?hr ?_; (case hd => rfl); (case hg => rfl); (case hr => first | (go_simp; done) | (go_simp; rfl)); intro gb250 hg w16 hbox hb; have n0_ := Aside0.mk (blk_below (g := gb242) (o := .cells #[.int .i64 5, .int .i64 0, .int .i64 0, .string (strOfNums l0)] 31 (0, 0)) (by (with_reducible repeat (first | refine blk_drewN ?_ _ | refine blk_drew ?_ | refine blk_alloc ?_ _)); exact BK242.out) hb); have n1_ := Aside0.mk (below_step (by repeat (first | (with_reducible first | exact HB.out | apply below_alloc | apply pw_below_drewN | apply below_drew1 | refine below_set ?_ GE242.out) | exact HB.out)) hb); have n2_ := Aside0.mk (hbox); have n3_ := Aside0.mk ((by rw [hg]; exact (below_size (by repeat (first | (with_reducible first | exact HB.out | apply below_alloc | apply pw_below_drewN | apply below_drew1 | refine below_set ?_ GE242.out) | exact HB.out))) : w.heap.size ≤ gb250)); have n4_ := Aside0.mk ((by rw [hg]; exact (below_size (by repeat (first | (with_reducible first | exact HB.out | apply below_alloc | apply pw_below_drewN | apply below_drew1 | refine below_set ?_ GE242.out) | exact HB.out))) : w.heap.size ≤ gb250)); have n5_ := Aside0.mk ((by rw [hg]; exact Nat.ne_of_lt (blk_lt (g := gb242) (o := .cells #[.int .i64 5, .int .i64 0, .int .i64 0, .string (strOfNums l0)] 31 (0, 0)) (by (with_reducible repeat (first | refine blk_drewN ?_ _ | refine blk_drew ?_ | refine blk_alloc ?_ _)); exact BK242.out)) : gb242 ≠ gb250)); have n6_ := Aside0.mk ((by rw [hg]; exact Nat.ne_of_gt (blk_lt (g := gb242) (o := .cells #[.int .i64 5, .int .i64 0, .int .i64 0, .string (strOfNums l0)] 31 (0, 0)) (by (with_reducible repeat (first | refine blk_drewN ?_ _ | refine blk_drew ?_ | refine blk_alloc ?_ _)); exact BK242.out)) : gb250 ≠ gb242)); clear BK242; clear HB; have BK242 := n0_; have HB := n1_; have BK250 := n2_; have GW250 := n3_; have GE250 := n4_; have NB242_250 := n5_; have NB250_242 := n6_; clear n0_ n1_ n2_ n3_ n4_ n5_ n6_; clear hb hbox hg; have hnb17 := NB250_242.out; have hnc17 := NB242_250.out; have hcz18_0 : w16.cell? ⟨gb250, 0, none⟩ = some (.int .i64 0) := (blk_cell BK250.out 0).trans rfl; have hcz18_1 : w16.cell? ⟨gb250, 1, none⟩ = some (.int .i64 0) := (blk_cell BK250.out 1).trans rfl; have hcz18_2 : w16.cell? ⟨gb250, 2, none⟩ = some (.int .i64 0) := (blk_cell BK250.out 2).trans rfl; have hcz18_3 : w16.cell? ⟨gb250, 3, none⟩ = some (.string (⟨#[]⟩ : ByteArray)) := (blk_cell BK250.out 3).trans rfl; have hfz18_0 := blk_frozen BK250.out 0; have hfz18_1 := blk_frozen BK250.out 1; have hfz18_2 := blk_frozen BK250.out 2; have hfz18_3 := blk_frozen BK250.out 3; have hcv19 := Kd.C_string (P := Tryz.prog) (A := A0) (c := c0) Tryz.underlying35 Tryz.underlying5 Tryz.underlying9 (Kd.C_below HR0.out HB.out); have hcv19_s : ∀ v0_ v1_ v2_ v3_ : Value, Sem.run Tryz.prog (convert 35 9 (.slice A0 l0.length c0)) ((((w16.setCell ⟨gb250, 0, none⟩ v0_).setCell ⟨gb250, 1, none⟩ v1_).setCell ⟨gb250, 2, none⟩ v2_).setCell ⟨gb250, 3, none⟩ v3_) = .ok (.string (strOfNums l0)) ((((w16.setCell ⟨gb250, 0, none⟩ v0_).setCell ⟨gb250, 1, none⟩ v1_).setCell ⟨gb250, 2, none⟩ v2_).setCell ⟨gb250, 3, none⟩ v3_) := fun v0_ v1_ v2_ v3_ => Kd.C_string (P := Tryz.prog) (A := A0) (c := c0) Tryz.underlying35 Tryz.underlying5 Tryz.underlying9 (Kd.C_below HR0.out (below_set (below_set (below_set (below_set HB.out GE250.out) GE250.out) GE250.out) GE250.out))) | ((with_reducible refine gate_dst (N := 11) rfl ?_); (try (refine gate_guard (by rfl) ?_; dsimp only)); refine box_event ?hg (N := 11) ?hd (cs := #[.int .i64 0, .int .i64 0, .int .i64 0, .string (⟨#[]⟩ : ByteArray)]) (t := 31) ?hr ?_; (case hd => rfl); (case hg => rfl); (case hr => first | (go_simp; done) | (go_simp; rfl)); intro gb251 hg w20 hbox hb; have n0_ := Aside0.mk (blk_below (g := gb242) (o := .cells #[.int .i64 5, .int .i64 0, .int .i64 0, .string (strOfNums l0)] 31 (0, 0)) (by (with_reducible repeat (first | refine blk_drewN ?_ _ | refine blk_drew ?_ | refine blk_alloc ?_ _)); refine blk_far ?_ NB242_250.out _; (with_reducible repeat (first | refine blk_drewN ?_ _ | refine blk_drew ?_ | refine blk_alloc ?_ _)); refine blk_far ?_ NB242_250.out _; (with_reducible repeat (first | refine blk_drewN ?_ _ | refine blk_drew ?_ | refine blk_alloc ?_ _)); refine blk_far ?_ NB242_250.out _; (with_reducible repeat (first | refine blk_drewN ?_ _ | refine blk_drew ?_ | refine blk_alloc ?_ _)); refine blk_far ?_ NB242_250.out _; (with_reducible repeat (first | refine blk_drewN ?_ _ | refine blk_drew ?_ | refine blk_alloc ?_ _)); exact BK242.out) hb); have n1_ := Aside0.mk (blk_below (g := gb250) (o := .cells #[.int .i64 t244, .int .i64 t245, .int .i64 t246, .string t247] 31 (0, 0)) (by (with_reducible repeat (first | refine blk_drewN ?_ _ | refine blk_drew ?_ | refine blk_alloc ?_ _)); refine blk_put (cs := #[.int .i64 t244, .int .i64 t245, .int .i64 t246, .string (⟨#[]⟩ : ByteArray)]) ?_ 3 _ rfl; (with_reducible repeat (first | refine blk_drewN ?_ _ | refine blk_drew ?_ | refine blk_alloc ?_ _)); refine blk_put (cs := #[.int .i64 t244, .int .i64 t245, .int .i64 0, .string (⟨#[]⟩ : ByteArray)]) ?_ 2 _ rfl; (with_reducible repeat (first | refine blk_drewN ?_ _ | refine blk_drew ?_ | refine blk_alloc ?_ _)); refine blk_put (cs := #[.int .i64 t244, .int .i64 0, .int .i64 0, .string (⟨#[]⟩ : ByteArray)]) ?_ 1 _ rfl; (with_reducible repeat (first | refine blk_drewN ?_ _ | refine blk_drew ?_ | refine blk_alloc ?_ _)); refine blk_put (cs := #[.int .i64 0, .int .i64 0, .int .i64 0, .string (⟨#[]⟩ : ByteArray)]) ?_ 0 _ rfl; (with_reducible repeat (first | refine blk_drewN ?_ _ | refine blk_drew ?_ | refine blk_alloc ?_ _)); exact BK250.out) hb); have n2_ := Aside0.mk (below_step (by repeat (first | (with_reducible first | exact HB.out | apply below_alloc | apply pw_below_drewN | apply below_drew1 | refine below_set ?_ GE242.out | refine below_set ?_ GE250.out) | exact HB.out)) hb); have n3_ := Aside0.mk (hbox); have n4_ := Aside0.mk ((by rw [hg]; exact (below_size (by repeat (first | (with_reducible first | exact HB.out | apply below_alloc | apply pw_below_drewN | apply below_drew1 | refine below_set ?_ GE242.out | refine below_set ?_ GE250.out) | exact HB.out))) : w.heap.size ≤ gb251)); have n5_ := Aside0.mk ((by rw [hg]; exact (below_size (by repeat (first | (with_reducible first | exact HB.out | apply below_alloc | apply pw_below_drewN | apply below_drew1 | refine below_set ?_ GE242.out | refine below_set ?_ GE250.out) | exact HB.out))) : w.heap.size ≤ gb251)); have n6_ := Aside0.mk ((by rw [hg]; exact Nat.ne_of_lt (blk_lt (g := gb242) (o := .cells #[.int .i64 5, .int .i64 0, .int .i64 0, .string (strOfNums l0)] 31 (0, 0)) (by (with_reducible repeat (first | refine blk_drewN ?_ _ | refine blk_drew ?_ | refine blk_alloc ?_ _)); refine blk_far ?_ NB242_250.out _; (with_reducible repeat (first | refine blk_drewN ?_ _ | refine blk_drew ?_ | refine blk_alloc ?_ _)); refine blk_far ?_ NB242_250.out _; (with_reducible repeat (first | refine blk_drewN ?_ _ | refine blk_drew ?_ | refine blk_alloc ?_ _)); refine blk_far ?_ NB242_250.out _; (with_reducible repeat (first | refine blk_drewN ?_ _ | refine blk_drew ?_ | refine blk_alloc ?_ _)); refine blk_far ?_ NB242_250.out _; (with_reducible repeat (first | refine blk_drewN ?_ _ | refine blk_drew ?_ | refine blk_alloc ?_ _)); exact BK242.out)) : gb242 ≠ gb251)); have n7_ := Aside0.mk ((by rw [hg]; exact Nat.ne_of_gt (blk_lt (g := gb242) (o := .cells #[.int .i64 5, .int .i64 0, .int .i64 0, .string (strOfNums l0)] 31 (0, 0)) (by (with_reducible repeat (first | refine blk_drewN ?_ _ | refine blk_drew ?_ | refine blk_alloc ?_ _)); refine blk_far ?_ NB242_250.out _; (with_reducible repeat (first | refine blk_drewN ?_ _ | refine blk_drew ?_ | refine blk_alloc ?_ _)); refine blk_far ?_ NB242_250.out _; (with_reducible repeat (first | refine blk_drewN ?_ _ | refine blk_drew ?_ | refine blk_alloc ?_ _)); refine blk_far ?_ NB242_250.out _; (with_reducible repeat (first | refine blk_drewN ?_ _ | refine blk_drew ?_ | refine blk_alloc ?_ _)); refine blk_far ?_ NB242_250.out _; (with_reducible repeat (first | refine blk_drewN ?_ _ | refine blk_drew ?_ | refine blk_alloc ?_ _)); exact BK242.out)) : gb251 ≠ gb242)); have n8_ := Aside0.mk ((by rw [hg]; exact Nat.ne_of_lt (blk_lt (g := gb250) (o := .cells #[.int .i64 t244, .int .i64 t245, .int .i64 t246, .string t247] 31 (0, 0)) (by (with_reducible repeat (first | refine blk_drewN ?_ _ | refine blk_drew ?_ | refine blk_alloc ?_ _)); refine blk_put (cs := #[.int .i64 t244, .int .i64 t245, .int .i64 t246, .string (⟨#[]⟩ : ByteArray)]) ?_ 3 _ rfl; (with_reducible repeat (first | refine blk_drewN ?_ _ | refine blk_drew ?_ | refine blk_alloc ?_ _)); refine blk_put (cs := #[.int .i64 t244, .int .i64 t245, .int .i64 0, .string (⟨#[]⟩ : ByteArray)]) ?_ 2 _ rfl; (with_reducible repeat (first | refine blk_drewN ?_ _ | refine blk_drew ?_ | refine blk_alloc ?_ _)); refine blk_put (cs := #[.int .i64 t244, .int .i64 0, .int .i64 0, .string (⟨#[]⟩ : ByteArray)]) ?_ 1 _ rfl; (with_reducible repeat (first | refine blk_drewN ?_ _ | refine blk_drew ?_ | refine blk_alloc ?_ _)); refine blk_put (cs := #[.int .i64 0, .int .i64 0, .int .i64 0, .string (⟨#[]⟩ : ByteArray)]) ?_ 0 _ rfl; (with_reducible repeat (first | refine blk_drewN ?_ _ | refine blk_drew ?_ | refine blk_alloc ?_ _)); exact BK250.out)) : gb250 ≠ gb251)); have n9_ := Aside0.mk ((by rw [hg]; exact Nat.ne_of_gt (blk_lt (g := gb250) (o := .cells #[.int .i64 t244, .int .i64 t245, .int .i64 t246, .string t247] 31 (0, 0)) (by (with_reducible repeat (first | refine blk_drewN ?_ _ | refine blk_drew ?_ | refine blk_alloc ?_ _)); refine blk_put (cs := #[.int .i64 t244, .int .i64 t245, .int .i64 t246, .string (⟨#[]⟩ : ByteArray)]) ?_ 3 _ rfl; (with_reducible repeat (first | refine blk_drewN ?_ _ | refine blk_drew ?_ | refine blk_alloc ?_ _)); refine blk_put (cs := #[.int .i64 t244, .int .i64 t245, .int .i64 0, .string (⟨#[]⟩ : ByteArray)]) ?_ 2 _ rfl; (with_reducible repeat (first | refine blk_drewN ?_ _ | refine blk_drew ?_ | refine blk_alloc ?_ _)); refine blk_put (cs := #[.int .i64 t244, .int .i64 0, .int .i64 0, .string (⟨#[]⟩ : ByteArray)]) ?_ 1 _ rfl; (with_reducible repeat (first | refine blk_drewN ?_ _ | refine blk_drew ?_ | refine blk_alloc ?_ _)); refine blk_put (cs := #[.int .i64 0, .int .i64 0, .int .i64 0, .string (⟨#[]⟩ : ByteArray)]) ?_ 0 _ rfl; (with_reducible repeat (first | refine blk_drewN ?_ _ | refine blk_drew ?_ | refine blk_alloc ?_ _)); exact BK250.out)) : gb251 ≠ gb250)); clear BK242; clear BK250; clear HB; have BK242 := n0_; have BK250 := n1_; have HB := n2_; have BK251 := n3_; have GW251 := n4_; have GE251 := n5_; have NB242_251 := n6_; have NB251_242 := n7_; have NB250_251 := n8_; have NB251_250 := n9_; clear n0_ n1_ n2_ n3_ n4_ n5_ n6_ n7_ n8_ n9_; clear hb hbox hg; have hnb21 := NB251_242.out; have hnc21 := NB242_251.out; have hnb22 := NB251_250.out; have hnc22 := NB250_251.out; have hcz23_0 : w20.cell? ⟨gb251, 0, none⟩ = some (.int .i64 0) := (blk_cell BK251.out 0).trans rfl; have hcz23_1 : w20.cell? ⟨gb251, 1, none⟩ = some (.int .i64 0) := (blk_cell BK251.out 1).trans rfl; have hcz23_2 : w20.cell? ⟨gb251, 2, none⟩ = some (.int .i64 0) := (blk_cell BK251.out 2).trans rfl; have hcz23_3 : w20.cell? ⟨gb251, 3, none⟩ = some (.string (⟨#[]⟩ : ByteArray)) := (blk_cell BK251.out 3).trans rfl; have hfz23_0 := blk_frozen BK251.out 0; have hfz23_1 := blk_frozen BK251.out 1; have hfz23_2 := blk_frozen BK251.out 2; have hfz23_3 := blk_frozen BK251.out 3) | (go_at_call 14; (with_reducible refine (tok_Show.calls 4 0 0 (strOfNums l0) t252 _ ?side1 A8.out).mono ?_); (case side1 => exact GW.below (by repeat (first | (with_reducible first | exact HB.out | apply below_alloc | apply pw_below_drewN | apply below_drew1 | refine below_set ?_ GE242.out | refine below_set ?_ GE250.out | refine below_set ?_ GE251.out) | exact HB.out)) HG.out); rintro e w24 ⟨rfl, hb⟩; have n0_ := Aside0.mk (blk_below (g := gb242) (o := .cells #[.int .i64 5, .int .i64 0, .int .i64 0, .string (strOfNums l0)] 31 (0, 0)) (by (with_reducible repeat (first | refine blk_drewN ?_ _ | refine blk_drew ?_ | refine blk_alloc ?_ _)); refine blk_far ?_ NB242_251.out _; (with_reducible repeat (first | refine blk_drewN ?_ _ | refine blk_drew ?_ | refine blk_alloc ?_ _)); refine blk_far ?_ NB242_251.out _; (with_reducible repeat (first | refine blk_drewN ?_ _ | refine blk_drew ?_ | refine blk_alloc ?_ _)); refine blk_far ?_ NB242_251.out _; (with_reducible repeat (first | refine blk_drewN ?_ _ | refine blk_drew ?_ | refine blk_alloc ?_ _)); refine blk_far ?_ NB242_251.out _; (with_reducible repeat (first | refine blk_drewN ?_ _ | refine blk_drew ?_ | refine blk_alloc ?_ _)); exact BK242.out) hb); have n1_ := Aside0.mk (blk_below (g := gb250) (o := .cells #[.int .i64 t244, .int .i64 t245, .int .i64 t246, .string t247] 31 (0, 0)) (by (with_reducible repeat (first | refine blk_drewN ?_ _ | refine blk_drew ?_ | refine blk_alloc ?_ _)); refine blk_far ?_ NB250_251.out _; (with_reducible repeat (first | refine blk_drewN ?_ _ | refine blk_drew ?_ | refine blk_alloc ?_ _)); refine blk_far ?_ NB250_251.out _; (with_reducible repeat (first | refine blk_drewN ?_ _ | refine blk_drew ?_ | refine blk_alloc ?_ _)); refine blk_far ?_ NB250_251.out _; (with_reducible repeat (first | refine blk_drewN ?_ _ | refine blk_drew ?_ | refine blk_alloc ?_ _)); refine blk_far ?_ NB250_251.out _; (with_reducible repeat (first | refine blk_drewN ?_ _ | refine blk_drew ?_ | refine blk_alloc ?_ _)); exact BK250.out) hb); have n2_ := Aside0.mk (blk_below (g := gb251) (o := .cells #[.int .i64 4, .int .i64 0, .int .i64 0, .string (strOfNums l0)] 31 (0, 0)) (by (with_reducible repeat (first | refine blk_drewN ?_ _ | refine blk_drew ?_ | refine blk_alloc ?_ _)); refine blk_put (cs := #[.int .i64 4, .int .i64 0, .int .i64 0, .string (⟨#[]⟩ : ByteArray)]) ?_ 3 _ rfl; (with_reducible repeat (first | refine blk_drewN ?_ _ | refine blk_drew ?_ | refine blk_alloc ?_ _)); refine blk_put (cs := #[.int .i64 4, .int .i64 0, .int .i64 0, .string (⟨#[]⟩ : ByteArray)]) ?_ 2 _ rfl; (with_reducible repeat (first | refine blk_drewN ?_ _ | refine blk_drew ?_ | refine blk_alloc ?_ _)); refine blk_put (cs := #[.int .i64 4, .int .i64 0, .int .i64 0, .string (⟨#[]⟩ : ByteArray)]) ?_ 1 _ rfl; (with_reducible repeat (first | refine blk_drewN ?_ _ | refine blk_drew ?_ | refine blk_alloc ?_ _)); refine blk_put (cs := #[.int .i64 0, .int .i64 0, .int .i64 0, .string (⟨#[]⟩ : ByteArray)]) ?_ 0 _ rfl; (with_reducible repeat (first | refine blk_drewN ?_ _ | refine blk_drew ?_ | refine blk_alloc ?_ _)); exact BK251.out) hb); have n3_ := Aside0.mk (below_step (by repeat (first | (with_reducible first | exact HB.out | apply below_alloc | apply pw_below_drewN | apply below_drew1 | refine below_set ?_ GE242.out | refine below_set ?_ GE250.out | refine below_set ?_ GE251.out) | exact HB.out)) hb); clear BK242; clear BK250; clear BK251; clear HB; have BK242 := n0_; have BK250 := n1_; have BK251 := n2_; have HB := n3_; clear n0_ n1_ n2_ n3_; (try clear hb); (try clear hb2); (try clear hk); (try clear hi)) | (go_at_call 13; (with_reducible refine (tok_Next.calls k t252 0 t253 t254 t255 t256 t257 t258 _ ?side1 A9.out).mono ?_); (case side1 => exact GW.below (by repeat (first | (with_reducible first | exact HB.out | apply below_alloc | apply pw_below_drewN | apply below_drew1 | refine below_set ?_ GE242.out | refine below_set ?_ GE250.out | refine below_set ?_ GE251.out) | exact HB.out)) HG.out); rintro e w25 ⟨rfl, hb⟩; have n0_ := Aside0.mk (blk_below (g := gb242) (o := .cells #[.int .i64 5, .int .i64 0, .int .i64 0, .string (strOfNums l0)] 31 (0, 0)) (by (with_reducible repeat (first | refine blk_drewN ?_ _ | refine blk_drew ?_ | refine blk_alloc ?_ _)); exact BK242.out) hb); have n1_ := Aside0.mk (blk_below (g := gb250) (o := .cells #[.int .i64 t244, .int .i64 t245, .int .i64 t246, .string t247] 31 (0, 0)) (by (with_reducible repeat (first | refine blk_drewN ?_ _ | refine blk_drew ?_ | refine blk_alloc ?_ _)); exact BK250.out) hb); have n2_ := Aside0.mk (blk_below (g := gb251) (o := .cells #[.int .i64 4, .int .i64 0, .int .i64 0, .string (strOfNums l0)] 31 (0, 0)) (by (with_reducible repeat (first | refine blk_drewN ?_ _ | refine blk_drew ?_ | refine blk_alloc ?_ _)); exact BK251.out) hb); have n3_ := Aside0.mk (below_step (by repeat (first | (with_reducible first | exact HB.out | apply below_alloc | apply pw_below_drewN | apply below_drew1 | refine below_set ?_ GE242.out | refine below_set ?_ GE250.out | refine below_set ?_ GE251.out) | exact HB.out)) hb); clear BK242; clear BK250; clear BK251; clear HB; have BK242 := n0_; have BK250 := n1_; have BK251 := n2_; have HB := n3_; clear n0_ n1_ n2_ n3_; (try clear hb); (try clear hb2); (try clear hk); (try clear hi)) | ((with_reducible refine gate_dst (N := 12) rfl ?_); (try (refine gate_guard (by rfl) ?_; dsimp only)); refine box_event ?hg (N := 12) ?hd (cs := #[.int .i64 0, .int .i64 0, .int .i64 0, .string (⟨#[]⟩ : ByteArray)]) (t := 31) ?hr ?_; (case hd => rfl); (case hg => rfl); (case hr => first | (go_simp; done) | (go_simp; rfl)); intro gb259 hg w26 hbox hb; have n0_ := Aside0.mk (blk_below (g := gb242) (o := .cells #[.int .i64 5, .int .i64 0, .int .i64 0, .string (strOfNums l0)] 31 (0, 0)) (by (with_reducible repeat (first | refine blk_drewN ?_ _ | refine blk_drew ?_ | refine blk_alloc ?_ _)); exact BK242.out) hb); have n1_ := Aside0.mk (blk_below (g := gb250) (o := .cells #[.int .i64 t244, .int .i64 t245, .int .i64 t246, .string t247] 31 (0, 0)) (by (with_reducible repeat (first | refine blk_drewN ?_ _ | refine blk_drew ?_ | refine blk_alloc ?_ _)); exact BK250.out) hb); have n2_ := Aside0.mk (blk_below (g := gb251) (o := .cells #[.int .i64 4, .int .i64 0, .int .i64 0, .string (strOfNums l0)] 31 (0, 0)) (by (with_reducible repeat (first | refine blk_drewN ?_ _ | refine blk_drew ?_ | refine blk_alloc ?_ _)); exact BK251.out) hb); have n3_ := Aside0.mk (below_step (by repeat (first | (with_reducible first | exact HB.out | apply below_alloc | apply pw_below_drewN | apply below_drew1 | refine below_set ?_ GE242.out | refine below_set ?_ GE250.out | refine below_set ?_ GE251.out) | exact HB.out)) hb); have n4_ := Aside0.mk (hbox); have n5_ := Aside0.mk ((by rw [hg]; exact (below_size (by repeat (first | (with_reducible first | exact HB.out | apply below_alloc | apply pw_below_drewN | apply below_drew1 | refine below_set ?_ GE242.out | refine below_set ?_ GE250.out | refine below_set ?_ GE251.out) | exact HB.out))) : w.heap.size ≤ gb259)); have n6_ := Aside0.mk ((by rw [hg]; exact (below_size (by repeat (first | (with_reducible first | exact HB.out | apply below_alloc | apply pw_below_drewN | apply below_drew1 | refine below_set ?_ GE242.out | refine below_set ?_ GE250.out | refine below_set ?_ GE251.out) | exact HB.out))) : w.heap.size ≤ gb259)); have n7_ := Aside0.mk ((by rw [hg]; exact Nat.ne_of_lt (blk_lt (g := gb242) (o := .cells #[.int .i64 5, .int .i64 0, .int .i64 0, .string (strOfNums l0)] 31 (0, 0)) (by (with_reducible repeat (first | refine blk_drewN ?_ _ | refine blk_drew ?_ | refine blk_alloc ?_ _)); exact BK242.out)) : gb242 ≠ gb259)); have n8_ := Aside0.mk ((by rw [hg]; exact Nat.ne_of_gt (blk_lt (g := gb242) (o := .cells #[.int .i64 5, .int .i64 0, .int .i64 0, .string (strOfNums l0)] 31 (0, 0)) (by (with_reducible repeat (first | refine blk_drewN ?_ _ | refine blk_drew ?_ | refine blk_alloc ?_ _)); exact BK242.out)) : gb259 ≠ gb242)); have n9_ := Aside0.mk ((by rw [hg]; exact Nat.ne_of_lt (blk_lt (g := gb250) (o := .cells #[.int .i64 t244, .int .i64 t245, .int .i64 t246, .string t247] 31 (0, 0)) (by (with_reducible repeat (first | refine blk_drewN ?_ _ | refine blk_drew ?_ | refine blk_alloc ?_ _)); exact BK250.out)) : gb250 ≠ gb259)); have n10_ := Aside0.mk ((by rw [hg]; exact Nat.ne_of_gt (blk_lt (g := gb250) (o := .cells #[.int .i64 t244, .int .i64 t245, .int .i64 t246, .string t247] 31 (0, 0)) (by (with_reducible repeat (first | refine blk_drewN ?_ _ | refine blk_drew ?_ | refine blk_alloc ?_ _)); exact BK250.out)) : gb259 ≠ gb250)); have n11_ := Aside0.mk ((by rw [hg]; exact Nat.ne_of_lt (blk_lt (g := gb251) (o := .cells #[.int .i64 4, .int .i64 0, .int .i64 0, .string (strOfNums l0)] 31 (0, 0)) (by (with_reducible repeat (first | refine blk_drewN ?_ _ | refine blk_drew ?_ | refine blk_alloc ?_ _)); exact BK251.out)) : gb251 ≠ gb259)); have n12_ := Aside0.mk ((by rw [hg]; exact Nat.ne_of_gt (blk_lt (g := gb251) (o := .cells #[.int .i64 4, .int .i64 0, .int .i64 0, .string (strOfNums l0)] 31 (0, 0)) (by (with_reducible repeat (first | refine blk_drewN ?_ _ | refine blk_drew ?_ | refine blk_alloc ?_ _)); exact BK251.out)) : gb259 ≠ gb251)); clear BK242; clear BK250; clear BK251; clear HB; have BK242 := n0_; have BK250 := n1_; have BK251 := n2_; have HB := n3_; have BK259 := n4_; have GW259 := n5_; have GE259 := n6_; have NB242_259 := n7_; have NB259_242 := n8_; have NB250_259 := n9_; have NB259_250 := n10_; have NB251_259 := n11_; have NB259_251 := n12_; clear n0_ n1_ n2_ n3_ n4_ n5_ n6_ n7_ n8_ n9_ n10_ n11_ n12_; clear hb hbox hg; have hnb27 := NB259_242.out; have hnc27 := NB242_259.out; have hnb28 := NB259_250.out; have hnc28 := NB250_259.out; have hnb29 := NB259_251.out; have hnc29 := NB251_259.out; have hcz30_0 : w26.cell? ⟨gb259, 0, none⟩ = some (.int .i64 0) := (blk_cell BK259.out 0).trans rfl; have hcz30_1 : w26.cell? ⟨gb259, 1, none⟩ = some (.int .i64 0) := (blk_cell BK259.out 1).trans rfl; have hcz30_2 : w26.cell? ⟨gb259, 2, none⟩ = some (.int .i64 0) := (blk_cell BK259.out 2).trans rfl; have hcz30_3 : w26.cell? ⟨gb259, 3, none⟩ = some (.string (⟨#[]⟩ : ByteArray)) := (blk_cell BK259.out 3).trans rfl; have hfz30_0 := blk_frozen BK259.out 0; have hfz30_1 := blk_frozen BK259.out 1; have hfz30_2 := blk_frozen BK259.out 2; have hfz30_3 := blk_frozen BK259.out 3)); try go_wp2_with (first | (go_at_call 8; (with_reducible refine (hornbooklaw04_awake.calls k  t241 _ ?side1 A3.out).mono ?_); (case side1 => exact GW.below (by repeat (first | (with_reducible first | exact HB.out | apply below_alloc | apply pw_below_drewN | apply below_drew1) | exact HB.out)) HG.out); rintro e w10 ⟨rfl, hb⟩; have n0_ := Aside0.mk (below_step (by repeat (first | (with_reducible first | exact HB.out | apply below_alloc | apply pw_below_drewN | apply below_drew1) | exact HB.out)) hb); clear HB; have HB := n0_; clear n0_; (try clear hb); (try clear hb2); (try clear hk); (try clear hi); have hcv11 := Kd.C_string (P := Tryz.prog) (A := A0) (c := c0) Tryz.underlying35 Tryz.underlying5 Tryz.underlying9 (Kd.C_below HR0.out HB.out); have hcv11_s : ∀ v0_ v1_ v2_ v3_ : Value, Sem.run Tryz.prog (convert 35 9 (.slice A0 l0.length c0)) ((((w26.setCell ⟨gb259, 0, none⟩ v0_).setCell ⟨gb259, 1, none⟩ v1_).setCell ⟨gb259, 2, none⟩ v2_).setCell ⟨gb259, 3, none⟩ v3_) = .ok (.string (strOfNums l0)) ((((w26.setCell ⟨gb259, 0, none⟩ v0_).setCell ⟨gb259, 1, none⟩ v1_).setCell ⟨gb259, 2, none⟩ v2_).setCell ⟨gb259, 3, none⟩ v3_) := fun v0_ v1_ v2_ v3_ => Kd.C_string (P := Tryz.prog) (A := A0) (c := c0) Tryz.underlying35 Tryz.underlying5 Tryz.underlying9 (Kd.C_below HR0.out (below_set (below_set (below_set (below_set HB.out GE259.out) GE259.out) GE259.out) GE259.out))) | ((with_reducible refine gate_dst (N := 6) rfl ?_); (try (refine gate_guard (by rfl) ?_; dsimp only)); refine box_event ?hg (N := 6) ?hd (cs := #[.int .i64 0, .int .i64 0, .int .i64 0, .string (⟨#[]⟩ : ByteArray)]) (t := 31) ?hr ?_; (case hd => rfl); (case hg => rfl); (case hr => first | (go_simp; done) | (go_simp; rfl)); intro gb242 hg w12 hbox hb; have n0_ := Aside0.mk (below_step (by repeat (first | (with_reducible first | exact HB.out | apply below_alloc | apply pw_below_drewN | apply below_drew1) | exact HB.out)) hb); have n1_ := Aside0.mk (hbox); have n2_ := Aside0.mk ((by rw [hg]; exact (below_size (by repeat (first | (with_reducible first | exact HB.out | apply below_alloc | apply pw_below_drewN | apply below_drew1) | exact HB.out))) : w.heap.size ≤ gb242)); have n3_ := Aside0.mk ((by rw [hg]; exact (below_size (by repeat (first | (with_reducible first | exact HB.out | apply below_alloc | apply pw_below_drewN | apply below_drew1) | exact HB.out))) : w.heap.size ≤ gb242)); clear HB; have HB := n0_; have BK242 := n1_; have GW242 := n2_; have GE242 := n3_; clear n0_ n1_ n2_ n3_; clear hb hbox hg; have hcz13_0 : w12.cell? ⟨gb242, 0, none⟩ = some (.int .i64 0) := (blk_cell BK242.out 0).trans rfl; have hcz13_1 : w12.cell? ⟨gb242, 1, none⟩ = some (.int .i64 0) := (blk_cell BK242.out 1).trans rfl; have hcz13_2 : w12.cell? ⟨gb242, 2, none⟩ = some (.int .i64 0) := (blk_cell BK242.out 2).trans rfl; have hcz13_3 : w12.cell? ⟨gb242, 3, none⟩ = some (.string (⟨#[]⟩ : ByteArray)) := (blk_cell BK242.out 3).trans rfl; have hfz13_0 := blk_frozen BK242.out 0; have hfz13_1 := blk_frozen BK242.out 1; have hfz13_2 := blk_frozen BK242.out 2; have hfz13_3 := blk_frozen BK242.out 3) | (go_at_call 14; (with_reducible refine (tok_Show.calls 5 0 0 (strOfNums l0) t243 _ ?side1 A6.out).mono ?_); (case side1 => exact GW.below (by repeat (first | (with_reducible first | exact HB.out | apply below_alloc | apply pw_below_drewN | apply below_drew1 | refine below_set ?_ GE242.out) | exact HB.out)) HG.out); rintro e w14 ⟨rfl, hb⟩; have n0_ := Aside0.mk (blk_below (g := gb242) (o := .cells #[.int .i64 5, .int .i64 0, .int .i64 0, .string (strOfNums l0)] 31 (0, 0)) (by (with_reducible repeat (first | refine blk_drewN ?_ _ | refine blk_drew ?_ | refine blk_alloc ?_ _)); refine blk_put (cs := #[.int .i64 5, .int .i64 0, .int .i64 0, .string (⟨#[]⟩ : ByteArray)]) ?_ 3 _ rfl; (with_reducible repeat (first | refine blk_drewN ?_ _ | refine blk_drew ?_ | refine blk_alloc ?_ _)); refine blk_put (cs := #[.int .i64 5, .int .i64 0, .int .i64 0, .string (⟨#[]⟩ : ByteArray)]) ?_ 2 _ rfl; (with_reducible repeat (first | refine blk_drewN ?_ _ | refine blk_drew ?_ | refine blk_alloc ?_ _)); refine blk_put (cs := #[.int .i64 5, .int .i64 0, .int .i64 0, .string (⟨#[]⟩ : ByteArray)]) ?_ 1 _ rfl; (with_reducible repeat (first | refine blk_drewN ?_ _ | refine blk_drew ?_ | refine blk_alloc ?_ _)); refine blk_put (cs := #[.int .i64 0, .int .i64 0, .int .i64 0, .string (⟨#[]⟩ : ByteArray)]) ?_ 0 _ rfl; (with_reducible repeat (first | refine blk_drewN ?_ _ | refine blk_drew ?_ | refine blk_alloc ?_ _)); exact BK242.out) hb); have n1_ := Aside0.mk (below_step (by repeat (first | (with_reducible first | exact HB.out | apply below_alloc | apply pw_below_drewN | apply below_drew1 | refine below_set ?_ GE242.out) | exact HB.out)) hb); clear BK242; clear HB; have BK242 := n0_; have HB := n1_; clear n0_ n1_; (try clear hb); (try clear hb2); (try clear hk); (try clear hi)) | (go_at_call 13; (with_reducible refine (tok_Next.calls k t243 0 t244 t245 t246 t247 t248 t249 _ ?side1 A7.out).mono ?_); (case side1 => exact GW.below (by repeat (first | (with_reducible first | exact HB.out | apply below_alloc | apply pw_below_drewN | apply below_drew1 | refine below_set ?_ GE242.out) | exact HB.out)) HG.out); rintro e w15 ⟨rfl, hb⟩; have n0_ := Aside0.mk (blk_below (g := gb242) (o := .cells #[.int .i64 5, .int .i64 0, .int .i64 0, .string (strOfNums l0)] 31 (0, 0)) (by (with_reducible repeat (first | refine blk_drewN ?_ _ | refine blk_drew ?_ | refine blk_alloc ?_ _)); exact BK242.out) hb); have n1_ := Aside0.mk (below_step (by repeat (first | (with_reducible first | exact HB.out | apply below_alloc | apply pw_below_drewN | apply below_drew1 | refine below_set ?_ GE242.out) | exact HB.out)) hb); clear BK242; clear HB; have BK242 := n0_; have HB := n1_; clear n0_ n1_; (try clear hb); (try clear hb2); (try clear hk); (try clear hi)) | ((with_reducible refine gate_dst (N := 8) rfl ?_); (try (refine gate_guard (by rfl) ?_; dsimp only)); refine box_event ?hg (N := 8) ?hd (cs := #[.int .i64 0, .int .i64 0, .int .i64 0, .string (⟨#[]⟩ : ByteArray)]) (t := 31) ?hr ?_; (case hd => rfl); (case hg => rfl); (case hr => first | (go_simp; done) | (go_simp; rfl)); intro gb250 hg w16 hbox hb; have n0_ := Aside0.mk (blk_below (g := gb242) (o := .cells #[.int .i64 5, .int .i64 0, .int .i64 0, .string (strOfNums l0)] 31 (0, 0)) (by (with_reducible repeat (first | refine blk_drewN ?_ _ | refine blk_drew ?_ | refine blk_alloc ?_ _)); exact BK242.out) hb); have n1_ := Aside0.mk (below_step (by repeat (first | (with_reducible first | exact HB.out | apply below_alloc | apply pw_below_drewN | apply below_drew1 | refine below_set ?_ GE242.out) | exact HB.out)) hb); have n2_ := Aside0.mk (hbox); have n3_ := Aside0.mk ((by rw [hg]; exact (below_size (by repeat (first | (with_reducible first | exact HB.out | apply below_alloc | apply pw_below_drewN | apply below_drew1 | refine below_set ?_ GE242.out) | exact HB.out))) : w.heap.size ≤ gb250)); have n4_ := Aside0.mk ((by rw [hg]; exact (below_size (by repeat (first | (with_reducible first | exact HB.out | apply below_alloc | apply pw_below_drewN | apply below_drew1 | refine below_set ?_ GE242.out) | exact HB.out))) : w.heap.size ≤ gb250)); have n5_ := Aside0.mk ((by rw [hg]; exact Nat.ne_of_lt (blk_lt (g := gb242) (o := .cells #[.int .i64 5, .int .i64 0, .int .i64 0, .string (strOfNums l0)] 31 (0, 0)) (by (with_reducible repeat (first | refine blk_drewN ?_ _ | refine blk_drew ?_ | refine blk_alloc ?_ _)); exact BK242.out)) : gb242 ≠ gb250)); have n6_ := Aside0.mk ((by rw [hg]; exact Nat.ne_of_gt (blk_lt (g := gb242) (o := .cells #[.int .i64 5, .int .i64 0, .int .i64 0, .string (strOfNums l0)] 31 (0, 0)) (by (with_reducible repeat (first | refine blk_drewN ?_ _ | refine blk_drew ?_ | refine blk_alloc ?_ _)); exact BK242.out)) : gb250 ≠ gb242)); clear BK242; clear HB; have BK242 := n0_; have HB := n1_; have BK250 := n2_; have GW250 := n3_; have GE250 := n4_; have NB242_250 := n5_; have NB250_242 := n6_; clear n0_ n1_ n2_ n3_ n4_ n5_ n6_; clear hb hbox hg; have hnb17 := NB250_242.out; have hnc17 := NB242_250.out; have hcz18_0 : w16.cell? ⟨gb250, 0, none⟩ = some (.int .i64 0) := (blk_cell BK250.out 0).trans rfl; have hcz18_1 : w16.cell? ⟨gb250, 1, none⟩ = some (.int .i64 0) := (blk_cell BK250.out 1).trans rfl; have hcz18_2 : w16.cell? ⟨gb250, 2, none⟩ = some (.int .i64 0) := (blk_cell BK250.out 2).trans rfl; have hcz18_3 : w16.cell? ⟨gb250, 3, none⟩ = some (.string (⟨#[]⟩ : ByteArray)) := (blk_cell BK250.out 3).trans rfl; have hfz18_0 := blk_frozen BK250.out 0; have hfz18_1 := blk_frozen BK250.out 1; have hfz18_2 := blk_frozen BK250.out 2; have hfz18_3 := blk_frozen BK250.out 3; have hcv19 := Kd.C_string (P := Tryz.prog) (A := A0) (c := c0) Tryz.underlying35 Tryz.underlying5 Tryz.underlying9 (Kd.C_below HR0.out HB.out); have hcv19_s : ∀ v0_ v1_ v2_ v3_ : Value, Sem.run Tryz.prog (convert 35 9 (.slice A0 l0.length c0)) ((((w16.setCell ⟨gb250, 0, none⟩ v0_).setCell ⟨gb250, 1, none⟩ v1_).setCell ⟨gb250, 2, none⟩ v2_).setCell ⟨gb250, 3, none⟩ v3_) = .ok (.string (strOfNums l0)) ((((w16.setCell ⟨gb250, 0, none⟩ v0_).setCell ⟨gb250, 1, none⟩ v1_).setCell ⟨gb250, 2, none⟩ v2_).setCell ⟨gb250, 3, none⟩ v3_) := fun v0_ v1_ v2_ v3_ => Kd.C_string (P := Tryz.prog) (A := A0) (c := c0) Tryz.underlying35 Tryz.underlying5 Tryz.underlying9 (Kd.C_below HR0.out (below_set (below_set (below_set (below_set HB.out GE250.out) GE250.out) GE250.out) GE250.out))) | ((with_reducible refine gate_dst (N := 11) rfl ?_); (try (refine gate_guard (by rfl) ?_; dsimp only)); refine box_event ?hg (N := 11) ?hd (cs := #[.int .i64 0, .int .i64 0, .int .i64 0, .string (⟨#[]⟩ : ByteArray)]) (t := 31) ?hr ?_; (case hd => rfl); (case hg => rfl); (case hr => first | (go_simp; done) | (go_simp; rfl)); intro gb251 hg w20 hbox hb; have n0_ := Aside0.mk (blk_below (g := gb242) (o := .cells #[.int .i64 5, .int .i64 0, .int .i64 0, .string (strOfNums l0)] 31 (0, 0)) (by (with_reducible repeat (first | refine blk_drewN ?_ _ | refine blk_drew ?_ | refine blk_alloc ?_ _)); refine blk_far ?_ NB242_250.out _; (with_reducible repeat (first | refine blk_drewN ?_ _ | refine blk_drew ?_ | refine blk_alloc ?_ _)); refine blk_far ?_ NB242_250.out _; (with_reducible repeat (first | refine blk_drewN ?_ _ | refine blk_drew ?_ | refine blk_alloc ?_ _)); refine blk_far ?_ NB242_250.out _; (with_reducible repeat (first | refine blk_drewN ?_ _ | refine blk_drew ?_ | refine blk_alloc ?_ _)); refine blk_far ?_ NB242_250.out _; (with_reducible repeat (first | refine blk_drewN ?_ _ | refine blk_drew ?_ | refine blk_alloc ?_ _)); exact BK242.out) hb); have n1_ := Aside0.mk (blk_below (g := gb250) (o := .cells #[.int .i64 t244, .int .i64 t245, .int .i64 t246, .string t247] 31 (0, 0)) (by (with_reducible repeat (first | refine blk_drewN ?_ _ | refine blk_drew ?_ | refine blk_alloc ?_ _)); refine blk_put (cs := #[.int .i64 t244, .int .i64 t245, .int .i64 t246, .string (⟨#[]⟩ : ByteArray)]) ?_ 3 _ rfl; (with_reducible repeat (first | refine blk_drewN ?_ _ | refine blk_drew ?_ | refine blk_alloc ?_ _)); refine blk_put (cs := #[.int .i64 t244, .int .i64 t245, .int .i64 0, .string (⟨#[]⟩ : ByteArray)]) ?_ 2 _ rfl; (with_reducible repeat (first | refine blk_drewN ?_ _ | refine blk_drew ?_ | refine blk_alloc ?_ _)); refine blk_put (cs := #[.int .i64 t244, .int .i64 0, .int .i64 0, .string (⟨#[]⟩ : ByteArray)]) ?_ 1 _ rfl; (with_reducible repeat (first | refine blk_drewN ?_ _ | refine blk_drew ?_ | refine blk_alloc ?_ _)); refine blk_put (cs := #[.int .i64 0, .int .i64 0, .int .i64 0, .string (⟨#[]⟩ : ByteArray)]) ?_ 0 _ rfl; (with_reducible repeat (first | refine blk_drewN ?_ _ | refine blk_drew ?_ | refine blk_alloc ?_ _)); exact BK250.out) hb); have n2_ := Aside0.mk (below_step (by repeat (first | (with_reducible first | exact HB.out | apply below_alloc | apply pw_below_drewN | apply below_drew1 | refine below_set ?_ GE242.out | refine below_set ?_ GE250.out) | exact HB.out)) hb); have n3_ := Aside0.mk (hbox); have n4_ := Aside0.mk ((by rw [hg]; exact (below_size (by repeat (first | (with_reducible first | exact HB.out | apply below_alloc | apply pw_below_drewN | apply below_drew1 | refine below_set ?_ GE242.out | refine below_set ?_ GE250.out) | exact HB.out))) : w.heap.size ≤ gb251)); have n5_ := Aside0.mk ((by rw [hg]; exact (below_size (by repeat (first | (with_reducible first | exact HB.out | apply below_alloc | apply pw_below_drewN | apply below_drew1 | refine below_set ?_ GE242.out | refine below_set ?_ GE250.out) | exact HB.out))) : w.heap.size ≤ gb251)); have n6_ := Aside0.mk ((by rw [hg]; exact Nat.ne_of_lt (blk_lt (g := gb242) (o := .cells #[.int .i64 5, .int .i64 0, .int .i64 0, .string (strOfNums l0)] 31 (0, 0)) (by (with_reducible repeat (first | refine blk_drewN ?_ _ | refine blk_drew ?_ | refine blk_alloc ?_ _)); refine blk_far ?_ NB242_250.out _; (with_reducible repeat (first | refine blk_drewN ?_ _ | refine blk_drew ?_ | refine blk_alloc ?_ _)); refine blk_far ?_ NB242_250.out _; (with_reducible repeat (first | refine blk_drewN ?_ _ | refine blk_drew ?_ | refine blk_alloc ?_ _)); refine blk_far ?_ NB242_250.out _; (with_reducible repeat (first | refine blk_drewN ?_ _ | refine blk_drew ?_ | refine blk_alloc ?_ _)); refine blk_far ?_ NB242_250.out _; (with_reducible repeat (first | refine blk_drewN ?_ _ | refine blk_drew ?_ | refine blk_alloc ?_ _)); exact BK242.out)) : gb242 ≠ gb251)); have n7_ := Aside0.mk ((by rw [hg]; exact Nat.ne_of_gt (blk_lt (g := gb242) (o := .cells #[.int .i64 5, .int .i64 0, .int .i64 0, .string (strOfNums l0)] 31 (0, 0)) (by (with_reducible repeat (first | refine blk_drewN ?_ _ | refine blk_drew ?_ | refine blk_alloc ?_ _)); refine blk_far ?_ NB242_250.out _; (with_reducible repeat (first | refine blk_drewN ?_ _ | refine blk_drew ?_ | refine blk_alloc ?_ _)); refine blk_far ?_ NB242_250.out _; (with_reducible repeat (first | refine blk_drewN ?_ _ | refine blk_drew ?_ | refine blk_alloc ?_ _)); refine blk_far ?_ NB242_250.out _; (with_reducible repeat (first | refine blk_drewN ?_ _ | refine blk_drew ?_ | refine blk_alloc ?_ _)); refine blk_far ?_ NB242_250.out _; (with_reducible repeat (first | refine blk_drewN ?_ _ | refine blk_drew ?_ | refine blk_alloc ?_ _)); exact BK242.out)) : gb251 ≠ gb242)); have n8_ := Aside0.mk ((by rw [hg]; exact Nat.ne_of_lt (blk_lt (g := gb250) (o := .cells #[.int .i64 t244, .int .i64 t245, .int .i64 t246, .string t247] 31 (0, 0)) (by (with_reducible repeat (first | refine blk_drewN ?_ _ | refine blk_drew ?_ | refine blk_alloc ?_ _)); refine blk_put (cs := #[.int .i64 t244, .int .i64 t245, .int .i64 t246, .string (⟨#[]⟩ : ByteArray)]) ?_ 3 _ rfl; (with_reducible repeat (first | refine blk_drewN ?_ _ | refine blk_drew ?_ | refine blk_alloc ?_ _)); refine blk_put (cs := #[.int .i64 t244, .int .i64 t245, .int .i64 0, .string (⟨#[]⟩ : ByteArray)]) ?_ 2 _ rfl; (with_reducible repeat (first | refine blk_drewN ?_ _ | refine blk_drew ?_ | refine blk_alloc ?_ _)); refine blk_put (cs := #[.int .i64 t244, .int .i64 0, .int .i64 0, .string (⟨#[]⟩ : ByteArray)]) ?_ 1 _ rfl; (with_reducible repeat (first | refine blk_drewN ?_ _ | refine blk_drew ?_ | refine blk_alloc ?_ _)); refine blk_put (cs := #[.int .i64 0, .int .i64 0, .int .i64 0, .string (⟨#[]⟩ : ByteArray)]) ?_ 0 _ rfl; (with_reducible repeat (first | refine blk_drewN ?_ _ | refine blk_drew ?_ | refine blk_alloc ?_ _)); exact BK250.out)) : gb250 ≠ gb251)); have n9_ := Aside0.mk ((by rw [hg]; exact Nat.ne_of_gt (blk_lt (g := gb250) (o := .cells #[.int .i64 t244, .int .i64 t245, .int .i64 t246, .string t247] 31 (0, 0)) (by (with_reducible repeat (first | refine blk_drewN ?_ _ | refine blk_drew ?_ | refine blk_alloc ?_ _)); refine blk_put (cs := #[.int .i64 t244, .int .i64 t245, .int .i64 t246, .string (⟨#[]⟩ : ByteArray)]) ?_ 3 _ rfl; (with_reducible repeat (first | refine blk_drewN ?_ _ | refine blk_drew ?_ | refine blk_alloc ?_ _)); refine blk_put (cs := #[.int .i64 t244, .int .i64 t245, .int .i64 0, .string (⟨#[]⟩ : ByteArray)]) ?_ 2 _ rfl; (with_reducible repeat (first | refine blk_drewN ?_ _ | refine blk_drew ?_ | refine blk_alloc ?_ _)); refine blk_put (cs := #[.int .i64 t244, .int .i64 0, .int .i64 0, .string (⟨#[]⟩ : ByteArray)]) ?_ 1 _ rfl; (with_reducible repeat (first | refine blk_drewN ?_ _ | refine blk_drew ?_ | refine blk_alloc ?_ _)); refine blk_put (cs := #[.int .i64 0, .int .i64 0, .int .i64 0, .string (⟨#[]⟩ : ByteArray)]) ?_ 0 _ rfl; (with_reducible repeat (first | refine blk_drewN ?_ _ | refine blk_drew ?_ | refine blk_alloc ?_ _)); exact BK250.out)) : gb251 ≠ gb250)); clear BK242; clear BK250; clear HB; have BK242 := n0_; have BK250 := n1_; have HB := n2_; have BK251 := n3_; have GW251 := n4_; have GE251 := n5_; have NB242_251 := n6_; have NB251_242 := n7_; have NB250_251 := n8_; have NB251_250 := n9_; clear n0_ n1_ n2_ n3_ n4_ n5_ n6_ n7_ n8_ n9_; clear hb hbox hg; have hnb21 := NB251_242.out; have hnc21 := NB242_251.out; have hnb22 := NB251_250.out; have hnc22 := NB250_251.out; have hcz23_0 : w20.cell? ⟨gb251, 0, none⟩ = some (.int .i64 0) := (blk_cell BK251.out 0).trans rfl; have hcz23_1 : w20.cell? ⟨gb251, 1, none⟩ = some (.int .i64 0) := (blk_cell BK251.out 1).trans rfl; have hcz23_2 : w20.cell? ⟨gb251, 2, none⟩ = some (.int .i64 0) := (blk_cell BK251.out 2).trans rfl; have hcz23_3 : w20.cell? ⟨gb251, 3, none⟩ = some (.string (⟨#[]⟩ : ByteArray)) := (blk_cell BK251.out 3).trans rfl; have hfz23_0 := blk_frozen BK251.out 0; have hfz23_1 := blk_frozen BK251.out 1; have hfz23_2 := blk_frozen BK251.out 2; have hfz23_3 := blk_frozen BK251.out 3) | (go_at_call 14; (with_reducible refine (tok_Show.calls 4 0 0 (strOfNums l0) t252 _ ?side1 A8.out).mono ?_); (case side1 => exact GW.below (by repeat (first | (with_reducible first | exact HB.out | apply below_alloc | apply pw_below_drewN | apply below_drew1 | refine below_set ?_ GE242.out | refine below_set ?_ GE250.out | refine below_set ?_ GE251.out) | exact HB.out)) HG.out); rintro e w24 ⟨rfl, hb⟩; have n0_ := Aside0.mk (blk_below (g := gb242) (o := .cells #[.int .i64 5, .int .i64 0, .int .i64 0, .string (strOfNums l0)] 31 (0, 0)) (by (with_reducible repeat (first | refine blk_drewN ?_ _ | refine blk_drew ?_ | refine blk_alloc ?_ _)); refine blk_far ?_ NB242_251.out _; (with_reducible repeat (first | refine blk_drewN ?_ _ | refine blk_drew ?_ | refine blk_alloc ?_ _)); refine blk_far ?_ NB242_251.out _; (with_reducible repeat (first | refine blk_drewN ?_ _ | refine blk_drew ?_ | refine blk_alloc ?_ _)); refine blk_far ?_ NB242_251.out _; (with_reducible repeat (first | refine blk_drewN ?_ _ | refine blk_drew ?_ | refine blk_alloc ?_ _)); refine blk_far ?_ NB242_251.out _; (with_reducible repeat (first | refine blk_drewN ?_ _ | refine blk_drew ?_ | refine blk_alloc ?_ _)); exact BK242.out) hb); have n1_ := Aside0.mk (blk_below (g := gb250) (o := .cells #[.int .i64 t244, .int .i64 t245, .int .i64 t246, .string t247] 31 (0, 0)) (by (with_reducible repeat (first | refine blk_drewN ?_ _ | refine blk_drew ?_ | refine blk_alloc ?_ _)); refine blk_far ?_ NB250_251.out _; (with_reducible repeat (first | refine blk_drewN ?_ _ | refine blk_drew ?_ | refine blk_alloc ?_ _)); refine blk_far ?_ NB250_251.out _; (with_reducible repeat (first | refine blk_drewN ?_ _ | refine blk_drew ?_ | refine blk_alloc ?_ _)); refine blk_far ?_ NB250_251.out _; (with_reducible repeat (first | refine blk_drewN ?_ _ | refine blk_drew ?_ | refine blk_alloc ?_ _)); refine blk_far ?_ NB250_251.out _; (with_reducible repeat (first | refine blk_drewN ?_ _ | refine blk_drew ?_ | refine blk_alloc ?_ _)); exact BK250.out) hb); have n2_ := Aside0.mk (blk_below (g := gb251) (o := .cells #[.int .i64 4, .int .i64 0, .int .i64 0, .string (strOfNums l0)] 31 (0, 0)) (by (with_reducible repeat (first | refine blk_drewN ?_ _ | refine blk_drew ?_ | refine blk_alloc ?_ _)); refine blk_put (cs := #[.int .i64 4, .int .i64 0, .int .i64 0, .string (⟨#[]⟩ : ByteArray)]) ?_ 3 _ rfl; (with_reducible repeat (first | refine blk_drewN ?_ _ | refine blk_drew ?_ | refine blk_alloc ?_ _)); refine blk_put (cs := #[.int .i64 4, .int .i64 0, .int .i64 0, .string (⟨#[]⟩ : ByteArray)]) ?_ 2 _ rfl; (with_reducible repeat (first | refine blk_drewN ?_ _ | refine blk_drew ?_ | refine blk_alloc ?_ _)); refine blk_put (cs := #[.int .i64 4, .int .i64 0, .int .i64 0, .string (⟨#[]⟩ : ByteArray)]) ?_ 1 _ rfl; (with_reducible repeat (first | refine blk_drewN ?_ _ | refine blk_drew ?_ | refine blk_alloc ?_ _)); refine blk_put (cs := #[.int .i64 0, .int .i64 0, .int .i64 0, .string (⟨#[]⟩ : ByteArray)]) ?_ 0 _ rfl; (with_reducible repeat (first | refine blk_drewN ?_ _ | refine blk_drew ?_ | refine blk_alloc ?_ _)); exact BK251.out) hb); have n3_ := Aside0.mk (below_step (by repeat (first | (with_reducible first | exact HB.out | apply below_alloc | apply pw_below_drewN | apply below_drew1 | refine below_set ?_ GE242.out | refine below_set ?_ GE250.out | refine below_set ?_ GE251.out) | exact HB.out)) hb); clear BK242; clear BK250; clear BK251; clear HB; have BK242 := n0_; have BK250 := n1_; have BK251 := n2_; have HB := n3_; clear n0_ n1_ n2_ n3_; (try clear hb); (try clear hb2); (try clear hk); (try clear hi)) | (go_at_call 13; (with_reducible refine (tok_Next.calls k t252 0 t253 t254 t255 t256 t257 t258 _ ?side1 A9.out).mono ?_); (case side1 => exact GW.below (by repeat (first | (with_reducible first | exact HB.out | apply below_alloc | apply pw_below_drewN | apply below_drew1 | refine below_set ?_ GE242.out | refine below_set ?_ GE250.out | refine below_set ?_ GE251.out) | exact HB.out)) HG.out); rintro e w25 ⟨rfl, hb⟩; have n0_ := Aside0.mk (blk_below (g := gb242) (o := .cells #[.int .i64 5, .int .i64 0, .int .i64 0, .string (strOfNums l0)] 31 (0, 0)) (by (with_reducible repeat (first | refine blk_drewN ?_ _ | refine blk_drew ?_ | refine blk_alloc ?_ _)); exact BK242.out) hb); have n1_ := Aside0.mk (blk_below (g := gb250) (o := .cells #[.int .i64 t244, .int .i64 t245, .int .i64 t246, .string t247] 31 (0, 0)) (by (with_reducible repeat (first | refine blk_drewN ?_ _ | refine blk_drew ?_ | refine blk_alloc ?_ _)); exact BK250.out) hb); have n2_ := Aside0.mk (blk_below (g := gb251) (o := .cells #[.int .i64 4, .int .i64 0, .int .i64 0, .string (strOfNums l0)] 31 (0, 0)) (by (with_reducible repeat (first | refine blk_drewN ?_ _ | refine blk_drew ?_ | refine blk_alloc ?_ _)); exact BK251.out) hb); have n3_ := Aside0.mk (below_step (by repeat (first | (with_reducible first | exact HB.out | apply below_alloc | apply pw_below_drewN | apply below_drew1 | refine below_set ?_ GE242.out | refine below_set ?_ GE250.out | refine below_set ?_ GE251.out) | exact HB.out)) hb); clear BK242; clear BK250; clear BK251; clear HB; have BK242 := n0_; have BK250 := n1_; have BK251 := n2_; have HB := n3_; clear n0_ n1_ n2_ n3_; (try clear hb); (try clear hb2); (try clear hk); (try clear hi)) | ((with_reducible refine gate_dst (N := 12) rfl ?_); (try (refine gate_guard (by rfl) ?_; dsimp only)); refine box_event ?hg (N := 12) ?hd (cs := #[.int .i64 0, .int .i64 0, .int .i64 0, .string (⟨#[]⟩ : ByteArray)]) (t := 31) ?hr ?_; (case hd => rfl); (case hg => rfl); (case hr => first | (go_simp; done) | (go_simp; rfl)); intro gb259 hg w26 hbox hb; have n0_ := Aside0.mk (blk_below (g := gb242) (o := .cells #[.int .i64 5, .int .i64 0, .int .i64 0, .string (strOfNums l0)] 31 (0, 0)) (by (with_reducible repeat (first | refine blk_drewN ?_ _ | refine blk_drew ?_ | refine blk_alloc ?_ _)); exact BK242.out) hb); have n1_ := Aside0.mk (blk_below (g := gb250) (o := .cells #[.int .i64 t244, .int .i64 t245, .int .i64 t246, .string t247] 31 (0, 0)) (by (with_reducible repeat (first | refine blk_drewN ?_ _ | refine blk_drew ?_ | refine blk_alloc ?_ _)); exact BK250.out) hb); have n2_ := Aside0.mk (blk_below (g := gb251) (o := .cells #[.int .i64 4, .int .i64 0, .int .i64 0, .string (strOfNums l0)] 31 (0, 0)) (by (with_reducible repeat (first | refine blk_drewN ?_ _ | refine blk_drew ?_ | refine blk_alloc ?_ _)); exact BK251.out) hb); have n3_ := Aside0.mk (below_step (by repeat (first | (with_reducible first | exact HB.out | apply below_alloc | apply pw_below_drewN | apply below_drew1 | refine below_set ?_ GE242.out | refine below_set ?_ GE250.out | refine below_set ?_ GE251.out) | exact HB.out)) hb); have n4_ := Aside0.mk (hbox); have n5_ := Aside0.mk ((by rw [hg]; exact (below_size (by repeat (first | (with_reducible first | exact HB.out | apply below_alloc | apply pw_below_drewN | apply below_drew1 | refine below_set ?_ GE242.out | refine below_set ?_ GE250.out | refine below_set ?_ GE251.out) | exact HB.out))) : w.heap.size ≤ gb259)); have n6_ := Aside0.mk ((by rw [hg]; exact (below_size (by repeat (first | (with_reducible first | exact HB.out | apply below_alloc | apply pw_below_drewN | apply below_drew1 | refine below_set ?_ GE242.out | refine below_set ?_ GE250.out | refine below_set ?_ GE251.out) | exact HB.out))) : w.heap.size ≤ gb259)); have n7_ := Aside0.mk ((by rw [hg]; exact Nat.ne_of_lt (blk_lt (g := gb242) (o := .cells #[.int .i64 5, .int .i64 0, .int .i64 0, .string (strOfNums l0)] 31 (0, 0)) (by (with_reducible repeat (first | refine blk_drewN ?_ _ | refine blk_drew ?_ | refine blk_alloc ?_ _)); exact BK242.out)) : gb242 ≠ gb259)); have n8_ := Aside0.mk ((by rw [hg]; exact Nat.ne_of_gt (blk_lt (g := gb242) (o := .cells #[.int .i64 5, .int .i64 0, .int .i64 0, .string (strOfNums l0)] 31 (0, 0)) (by (with_reducible repeat (first | refine blk_drewN ?_ _ | refine blk_drew ?_ | refine blk_alloc ?_ _)); exact BK242.out)) : gb259 ≠ gb242)); have n9_ := Aside0.mk ((by rw [hg]; exact Nat.ne_of_lt (blk_lt (g := gb250) (o := .cells #[.int .i64 t244, .int .i64 t245, .int .i64 t246, .string t247] 31 (0, 0)) (by (with_reducible repeat (first | refine blk_drewN ?_ _ | refine blk_drew ?_ | refine blk_alloc ?_ _)); exact BK250.out)) : gb250 ≠ gb259)); have n10_ := Aside0.mk ((by rw [hg]; exact Nat.ne_of_gt (blk_lt (g := gb250) (o := .cells #[.int .i64 t244, .int .i64 t245, .int .i64 t246, .string t247] 31 (0, 0)) (by (with_reducible repeat (first | refine blk_drewN ?_ _ | refine blk_drew ?_ | refine blk_alloc ?_ _)); exact BK250.out)) : gb259 ≠ gb250)); have n11_ := Aside0.mk ((by rw [hg]; exact Nat.ne_of_lt (blk_lt (g := gb251) (o := .cells #[.int .i64 4, .int .i64 0, .int .i64 0, .string (strOfNums l0)] 31 (0, 0)) (by (with_reducible repeat (first | refine blk_drewN ?_ _ | refine blk_drew ?_ | refine blk_alloc ?_ _)); exact BK251.out)) : gb251 ≠ gb259)); have n12_ := Aside0.mk ((by rw [hg]; exact Nat.ne_of_gt (blk_lt (g := gb251) (o := .cells #[.int .i64 4, .int .i64 0, .int .i64 0, .string (strOfNums l0)] 31 (0, 0)) (by (with_reducible repeat (first | refine blk_drewN ?_ _ | refine blk_drew ?_ | refine blk_alloc ?_ _)); exact BK251.out)) : gb259 ≠ gb251)); clear BK242; clear BK250; clear BK251; clear HB; have BK242 := n0_; have BK250 := n1_; have BK251 := n2_; have HB := n3_; have BK259 := n4_; have GW259 := n5_; have GE259 := n6_; have NB242_259 := n7_; have NB259_242 := n8_; have NB250_259 := n9_; have NB259_250 := n10_; have NB251_259 := n11_; have NB259_251 := n12_; clear n0_ n1_ n2_ n3_ n4_ n5_ n6_ n7_ n8_ n9_ n10_ n11_ n12_; clear hb hbox hg; have hnb27 := NB259_242.out; have hnc27 := NB242_259.out; have hnb28 := NB259_250.out; have hnc28 := NB250_259.out; have hnb29 := NB259_251.out; have hnc29 := NB251_259.out; have hcz30_0 : w26.cell? ⟨gb259, 0, none⟩ = some (.int .i64 0) := (blk_cell BK259.out 0).trans rfl; have hcz30_1 : w26.cell? ⟨gb259, 1, none⟩ = some (.int .i64 0) := (blk_cell BK259.out 1).trans rfl; have hcz30_2 : w26.cell? ⟨gb259, 2, none⟩ = some (.int .i64 0) := (blk_cell BK259.out 2).trans rfl; have hcz30_3 : w26.cell? ⟨gb259, 3, none⟩ = some (.string (⟨#[]⟩ : ByteArray)) := (blk_cell BK259.out 3).trans rfl; have hfz30_0 := blk_frozen BK259.out 0; have hfz30_1 := blk_frozen BK259.out 1; have hfz30_2 := blk_frozen BK259.out 2; have hfz30_3 := blk_frozen BK259.out 3)))
    go_loopg [16, 17, 18] k (fun kq v16 v17 v18 w' => ∃ (x16_1 : ByteArray) (x17_1 : ByteArray) (x18_1 : Int), v16 = .string x16_1 ∧ v17 = .string x17_1 ∧ v18 = .int .i64 x18_1 ∧ Aside0 (hornbooklaw04_TokStrings.l0 kq t241 t243 t248 t249 t258 (Go.bits .and .i64 a1 63) x16_1 x17_1 x18_1 5 0 0 (strOfNums l0) t244 t245 t246 t247 4 0 0 (strOfNums l0) t253 t254 t255 t256 = some r) ∧ Aside0 (kq ≤ k) ∧ Aside0 (w'.heap[gb242]? = some (.cells #[.int .i64 5, .int .i64 0, .int .i64 0, .string (strOfNums l0)] 31 (0, 0))) ∧ Aside0 (w'.heap[gb250]? = some (.cells #[.int .i64 t244, .int .i64 t245, .int .i64 t246, .string t247] 31 (0, 0))) ∧ Aside0 (w'.heap[gb251]? = some (.cells #[.int .i64 4, .int .i64 0, .int .i64 0, .string (strOfNums l0)] 31 (0, 0))) ∧ Aside0 (w'.heap[gb259]? = some (.cells #[.int .i64 t253, .int .i64 t254, .int .i64 t255, .string t256] 31 (0, 0))) ∧ Aside0 (Below w.heap.size w w'))
    case atStart => exact ⟨((⟨#[]⟩ : ByteArray)), ((⟨#[]⟩ : ByteArray)), (0), (by first | rfl | (simp; done) | (simp [*]; done)), (by first | rfl | (simp; done) | (simp [*]; done)), (by first | rfl | (simp; done) | (simp [*]; done)), H', ⟨Nat.le_refl _⟩, ⟨by (with_reducible repeat (first | refine blk_drewN ?_ _ | refine blk_drew ?_ | refine blk_alloc ?_ _)); refine blk_far ?_ NB242_259.out _; (with_reducible repeat (first | refine blk_drewN ?_ _ | refine blk_drew ?_ | refine blk_alloc ?_ _)); refine blk_far ?_ NB242_259.out _; (with_reducible repeat (first | refine blk_drewN ?_ _ | refine blk_drew ?_ | refine blk_alloc ?_ _)); refine blk_far ?_ NB242_259.out _; (with_reducible repeat (first | refine blk_drewN ?_ _ | refine blk_drew ?_ | refine blk_alloc ?_ _)); refine blk_far ?_ NB242_259.out _; (with_reducible repeat (first | refine blk_drewN ?_ _ | refine blk_drew ?_ | refine blk_alloc ?_ _)); exact BK242.out⟩, ⟨by (with_reducible repeat (first | refine blk_drewN ?_ _ | refine blk_drew ?_ | refine blk_alloc ?_ _)); refine blk_far ?_ NB250_259.out _; (with_reducible repeat (first | refine blk_drewN ?_ _ | refine blk_drew ?_ | refine blk_alloc ?_ _)); refine blk_far ?_ NB250_259.out _; (with_reducible repeat (first | refine blk_drewN ?_ _ | refine blk_drew ?_ | refine blk_alloc ?_ _)); refine blk_far ?_ NB250_259.out _; (with_reducible repeat (first | refine blk_drewN ?_ _ | refine blk_drew ?_ | refine blk_alloc ?_ _)); refine blk_far ?_ NB250_259.out _; (with_reducible repeat (first | refine blk_drewN ?_ _ | refine blk_drew ?_ | refine blk_alloc ?_ _)); exact BK250.out⟩, ⟨by (with_reducible repeat (first | refine blk_drewN ?_ _ | refine blk_drew ?_ | refine blk_alloc ?_ _)); refine blk_far ?_ NB251_259.out _; (with_reducible repeat (first | refine blk_drewN ?_ _ | refine blk_drew ?_ | refine blk_alloc ?_ _)); refine blk_far ?_ NB251_259.out _; (with_reducible repeat (first | refine blk_drewN ?_ _ | refine blk_drew ?_ | refine blk_alloc ?_ _)); refine blk_far ?_ NB251_259.out _; (with_reducible repeat (first | refine blk_drewN ?_ _ | refine blk_drew ?_ | refine blk_alloc ?_ _)); refine blk_far ?_ NB251_259.out _; (with_reducible repeat (first | refine blk_drewN ?_ _ | refine blk_drew ?_ | refine blk_alloc ?_ _)); exact BK251.out⟩, ⟨by (with_reducible repeat (first | refine blk_drewN ?_ _ | refine blk_drew ?_ | refine blk_alloc ?_ _)); refine blk_put (cs := #[.int .i64 t253, .int .i64 t254, .int .i64 t255, .string (⟨#[]⟩ : ByteArray)]) ?_ 3 _ rfl; (with_reducible repeat (first | refine blk_drewN ?_ _ | refine blk_drew ?_ | refine blk_alloc ?_ _)); refine blk_put (cs := #[.int .i64 t253, .int .i64 t254, .int .i64 0, .string (⟨#[]⟩ : ByteArray)]) ?_ 2 _ rfl; (with_reducible repeat (first | refine blk_drewN ?_ _ | refine blk_drew ?_ | refine blk_alloc ?_ _)); refine blk_put (cs := #[.int .i64 t253, .int .i64 0, .int .i64 0, .string (⟨#[]⟩ : ByteArray)]) ?_ 1 _ rfl; (with_reducible repeat (first | refine blk_drewN ?_ _ | refine blk_drew ?_ | refine blk_alloc ?_ _)); refine blk_put (cs := #[.int .i64 0, .int .i64 0, .int .i64 0, .string (⟨#[]⟩ : ByteArray)]) ?_ 0 _ rfl; (with_reducible repeat (first | refine blk_drewN ?_ _ | refine blk_drew ?_ | refine blk_alloc ?_ _)); exact BK259.out⟩, ⟨by repeat (first | (with_reducible first | exact HB.out | apply below_alloc | apply pw_below_drewN | apply below_drew1 | refine below_set ?_ GE242.out | refine below_set ?_ GE250.out | refine below_set ?_ GE251.out | refine below_set ?_ GE259.out) | exact HB.out)⟩⟩
    case round =>
      clear H'
      try clear c1
      try clear hcv1
      try clear c2
      try clear p2
      try clear c4
      try clear c4b0
      try clear c4b1
      try clear c5
      try clear hcv11
      try clear c17
      try clear hcv19
      try clear c21
      try clear c22
      try clear c27
      try clear c28
      try clear c29
      try clear hcz13_0
      try clear hcz13_1
      try clear hcz13_2
      try clear hcz13_3
      try clear hcz18_0
      try clear hcz18_1
      try clear hcz18_2
      try clear hcz18_3
      try clear hcz23_0
      try clear hcz23_1
      try clear hcz23_2
      try clear hcz23_3
      try clear hcz30_0
      try clear hcz30_1
      try clear hcz30_2
      try clear hcz30_3
      try clear hfz13_0
      try clear hfz13_1
      try clear hfz13_2
      try clear hfz13_3
      try clear hfz18_0
      try clear hfz18_1
      try clear hfz18_2
      try clear hfz18_3
      try clear hfz23_0
      try clear hfz23_1
      try clear hfz23_2
      try clear hfz23_3
      try clear hfz30_0
      try clear hfz30_1
      try clear hfz30_2
      try clear hfz30_3
      obtain ⟨x16_1, x17_1, x18_1, rfl, rfl, rfl, HA, HK1, BK242, BK250, BK251, BK259, HB⟩ := hrel
      cases gk with
      | zero => exact absurd HA.out (by simp [hornbooklaw04_TokStrings.l0])
      | succ k1 =>
        have H := HA.out
        clear HA
        simp only [hornbooklaw04_TokStrings.l0] at H
        by_cases c31 : x18_1 < (Go.bits .and .i64 a1 63)
        · rw [if_pos c31] at H
          have c31b0 : decide (x18_1 < (Go.bits .and .i64 a1 63)) = true := decide_eq_true c31
          clear c31
          by_cases c32 : x16_1.size + 1 ≤ 9223372036854775807
          · rw [if_pos c32] at H
            have c32b0 := eq_true c32
            have c32b1 : decide (x16_1.size + 1 ≤ 9223372036854775807) = true := decide_eq_true c32
            try have c32b2 : (9223372036854775807 < x16_1.size + 1) = False := eq_false (Nat.not_lt.2 c32)
            by_cases c33 : x17_1.size + 1 ≤ 9223372036854775807
            · rw [if_pos c33] at H
              have c33b0 := eq_true c33
              have c33b1 : decide (x17_1.size + 1 ≤ 9223372036854775807) = true := decide_eq_true c33
              try have c33b2 : (9223372036854775807 < x17_1.size + 1) = False := eq_false (Nat.not_lt.2 c33)
              have H' := Aside0.mk H
              clear H
              go_wp2
              repeat (go_quiet (fail); try go_wp2)
              go_roundg k1
              case measure => have := HK1.out; omega
              case rel => exact ⟨(x16_1 ++ (⟨#[40]⟩ : ByteArray)), (x17_1 ++ (⟨#[41]⟩ : ByteArray)), (wrap64 (x18_1 + 1)), (by first | rfl | (simp; done) | (simp [*]; done)), (by first | rfl | (simp; done) | (simp [*]; done)), (by first | rfl | (simp; done) | (simp [*]; done)), H', ⟨by have := HK1.out; omega⟩, ⟨by (with_reducible repeat (first | refine blk_drewN ?_ _ | refine blk_drew ?_ | refine blk_alloc ?_ _)); exact BK242.out⟩, ⟨by (with_reducible repeat (first | refine blk_drewN ?_ _ | refine blk_drew ?_ | refine blk_alloc ?_ _)); exact BK250.out⟩, ⟨by (with_reducible repeat (first | refine blk_drewN ?_ _ | refine blk_drew ?_ | refine blk_alloc ?_ _)); exact BK251.out⟩, ⟨by (with_reducible repeat (first | refine blk_drewN ?_ _ | refine blk_drew ?_ | refine blk_alloc ?_ _)); exact BK259.out⟩, ⟨by repeat (first | (with_reducible first | exact HB.out | apply below_alloc | apply pw_below_drewN | apply below_drew1 | refine below_set ?_ GE242.out | refine below_set ?_ GE250.out | refine below_set ?_ GE251.out | refine below_set ?_ GE259.out) | exact HB.out)⟩⟩
            · rw [if_neg c33] at H
              exact absurd H (by simp)
          · rw [if_neg c32] at H
            exact absurd H (by simp)
        · rw [if_neg c31] at H
          have c31b0 : decide (x18_1 < (Go.bits .and .i64 a1 63)) = false := decide_eq_false c31
          clear c31
          by_cases c34 : x16_1.size + x17_1.size ≤ 9223372036854775807
          · rw [if_pos c34] at H
            have c34b0 := eq_true c34
            have c34b1 : decide (x16_1.size + x17_1.size ≤ 9223372036854775807) = true := decide_eq_true c34
            try have c34b2 : (9223372036854775807 < x16_1.size + x17_1.size) = False := eq_false (Nat.not_lt.2 c34)
            replace H := Option.bind_eq_some_iff.mp H
            obtain ⟨⟨t260, t261, t262, t263, t264, t265⟩, A350, H⟩ := H
            replace H : (if t249 = 0 then (if (!(t244 == 5) || (!(t245 == 0) || (!(t246 == 0) || (!(t247.toList == (strOfNums l0).toList))))) = true then (hornbooklaw04_TokStrings.j1 k1 t241 (Go.bits .and .i64 a1 63) x16_1 x17_1 t265 true t260 t261 t262 t263) else (if t248 = (t243.size : Int) then (if t258 = 0 then (hornbooklaw04_TokStrings.j1 k1 t241 (Go.bits .and .i64 a1 63) x16_1 x17_1 t265 (!(t253 == 4) || (!(t254 == 0) || (!(t255 == 0) || (!(t256.toList == (strOfNums l0).toList))))) t260 t261 t262 t263) else (hornbooklaw04_TokStrings.j1 k1 t241 (Go.bits .and .i64 a1 63) x16_1 x17_1 t265 true t260 t261 t262 t263)) else (hornbooklaw04_TokStrings.j1 k1 t241 (Go.bits .and .i64 a1 63) x16_1 x17_1 t265 true t260 t261 t262 t263))) else (hornbooklaw04_TokStrings.j1 k1 t241 (Go.bits .and .i64 a1 63) x16_1 x17_1 t265 true t260 t261 t262 t263)) = some r := H
            have A35 := Aside0.mk A350
            clear A350
            have HC36 := Aside0.mk H
            clear H
            go_upto_region 18 with (first | (go_at_call 13; (with_reducible refine (tok_Next.calls k1 (x16_1 ++ x17_1) 0 t260 t261 t262 t263 t264 t265 _ ?side1 A35.out).mono ?_); (case side1 => exact GW.below (by repeat (first | (with_reducible first | exact HB.out | apply below_alloc | apply pw_below_drewN | apply below_drew1 | refine below_set ?_ GE242.out | refine below_set ?_ GE250.out | refine below_set ?_ GE251.out | refine below_set ?_ GE259.out) | exact HB.out)) HG.out); rintro e w37 ⟨rfl, hb⟩; have n0_ := Aside0.mk (blk_below (g := gb242) (o := .cells #[.int .i64 5, .int .i64 0, .int .i64 0, .string (strOfNums l0)] 31 (0, 0)) (by (with_reducible repeat (first | refine blk_drewN ?_ _ | refine blk_drew ?_ | refine blk_alloc ?_ _)); exact BK242.out) hb); have n1_ := Aside0.mk (blk_below (g := gb250) (o := .cells #[.int .i64 t244, .int .i64 t245, .int .i64 t246, .string t247] 31 (0, 0)) (by (with_reducible repeat (first | refine blk_drewN ?_ _ | refine blk_drew ?_ | refine blk_alloc ?_ _)); exact BK250.out) hb); have n2_ := Aside0.mk (blk_below (g := gb251) (o := .cells #[.int .i64 4, .int .i64 0, .int .i64 0, .string (strOfNums l0)] 31 (0, 0)) (by (with_reducible repeat (first | refine blk_drewN ?_ _ | refine blk_drew ?_ | refine blk_alloc ?_ _)); exact BK251.out) hb); have n3_ := Aside0.mk (blk_below (g := gb259) (o := .cells #[.int .i64 t253, .int .i64 t254, .int .i64 t255, .string t256] 31 (0, 0)) (by (with_reducible repeat (first | refine blk_drewN ?_ _ | refine blk_drew ?_ | refine blk_alloc ?_ _)); exact BK259.out) hb); have n4_ := Aside0.mk (below_step (by repeat (first | (with_reducible first | exact HB.out | apply below_alloc | apply pw_below_drewN | apply below_drew1 | refine below_set ?_ GE242.out | refine below_set ?_ GE250.out | refine below_set ?_ GE251.out | refine below_set ?_ GE259.out) | exact HB.out)) hb); clear BK242; clear BK250; clear BK251; clear BK259; clear HB; have BK242 := n0_; have BK250 := n1_; have BK251 := n2_; have BK259 := n3_; have HB := n4_; clear n0_ n1_ n2_ n3_ n4_; (try clear hb); (try clear hb2); (try clear hk); (try clear hi)) | ((with_reducible refine gate_dst (N := 19) rfl ?_); (try (refine gate_guard (by rfl) ?_; dsimp only)); refine box_event ?hg (N := 19) ?hd (cs := #[.int .i64 0, .int .i64 0, .int .i64 0, .string (⟨#[]⟩ : ByteArray)]) (t := 31) ?hr ?_; (case hd => rfl); (case hg => rfl); (case hr => first | (go_simp; done) | (go_simp; rfl)); intro gb266 hg w38 hbox hb; have n0_ := Aside0.mk (blk_below (g := gb242) (o := .cells #[.int .i64 5, .int .i64 0, .int .i64 0, .string (strOfNums l0)] 31 (0, 0)) (by (with_reducible repeat (first | refine blk_drewN ?_ _ | refine blk_drew ?_ | refine blk_alloc ?_ _)); exact BK242.out) hb); have n1_ := Aside0.mk (blk_below (g := gb250) (o := .cells #[.int .i64 t244, .int .i64 t245, .int .i64 t246, .string t247] 31 (0, 0)) (by (with_reducible repeat (first | refine blk_drewN ?_ _ | refine blk_drew ?_ | refine blk_alloc ?_ _)); exact BK250.out) hb); have n2_ := Aside0.mk (blk_below (g := gb251) (o := .cells #[.int .i64 4, .int .i64 0, .int .i64 0, .string (strOfNums l0)] 31 (0, 0)) (by (with_reducible repeat (first | refine blk_drewN ?_ _ | refine blk_drew ?_ | refine blk_alloc ?_ _)); exact BK251.out) hb); have n3_ := Aside0.mk (blk_below (g := gb259) (o := .cells #[.int .i64 t253, .int .i64 t254, .int .i64 t255, .string t256] 31 (0, 0)) (by (with_reducible repeat (first | refine blk_drewN ?_ _ | refine blk_drew ?_ | refine blk_alloc ?_ _)); exact BK259.out) hb); have n4_ := Aside0.mk (below_step (by repeat (first | (with_reducible first | exact HB.out | apply below_alloc | apply pw_below_drewN | apply below_drew1 | refine below_set ?_ GE242.out | refine below_set ?_ GE250.out | refine below_set ?_ GE251.out | refine below_set ?_ GE259.out) | exact HB.out)) hb); have n5_ := Aside0.mk (hbox); have n6_ := Aside0.mk ((by rw [hg]; exact (below_size (by repeat (first | (with_reducible first | exact HB.out | apply below_alloc | apply pw_below_drewN | apply below_drew1 | refine below_set ?_ GE242.out | refine below_set ?_ GE250.out | refine below_set ?_ GE251.out | refine below_set ?_ GE259.out) | exact HB.out))) : w.heap.size ≤ gb266)); have n7_ := Aside0.mk ((by rw [hg]; exact (below_size (by repeat (first | (with_reducible first | exact HB.out | apply below_alloc | apply pw_below_drewN | apply below_drew1 | refine below_set ?_ GE242.out | refine below_set ?_ GE250.out | refine below_set ?_ GE251.out | refine below_set ?_ GE259.out) | exact HB.out))) : w.heap.size ≤ gb266)); have n8_ := Aside0.mk ((by rw [hg]; exact Nat.ne_of_lt (blk_lt (g := gb242) (o := .cells #[.int .i64 5, .int .i64 0, .int .i64 0, .string (strOfNums l0)] 31 (0, 0)) (by (with_reducible repeat (first | refine blk_drewN ?_ _ | refine blk_drew ?_ | refine blk_alloc ?_ _)); exact BK242.out)) : gb242 ≠ gb266)); have n9_ := Aside0.mk ((by rw [hg]; exact Nat.ne_of_gt (blk_lt (g := gb242) (o := .cells #[.int .i64 5, .int .i64 0, .int .i64 0, .string (strOfNums l0)] 31 (0, 0)) (by (with_reducible repeat (first | refine blk_drewN ?_ _ | refine blk_drew ?_ | refine blk_alloc ?_ _)); exact BK242.out)) : gb266 ≠ gb242)); have n10_ := Aside0.mk ((by rw [hg]; exact Nat.ne_of_lt (blk_lt (g := gb250) (o := .cells #[.int .i64 t244, .int .i64 t245, .int .i64 t246, .string t247] 31 (0, 0)) (by (with_reducible repeat (first | refine blk_drewN ?_ _ | refine blk_drew ?_ | refine blk_alloc ?_ _)); exact BK250.out)) : gb250 ≠ gb266)); have n11_ := Aside0.mk ((by rw [hg]; exact Nat.ne_of_gt (blk_lt (g := gb250) (o := .cells #[.int .i64 t244, .int .i64 t245, .int .i64 t246, .string t247] 31 (0, 0)) (by (with_reducible repeat (first | refine blk_drewN ?_ _ | refine blk_drew ?_ | refine blk_alloc ?_ _)); exact BK250.out)) : gb266 ≠ gb250)); have n12_ := Aside0.mk ((by rw [hg]; exact Nat.ne_of_lt (blk_lt (g := gb251) (o := .cells #[.int .i64 4, .int .i64 0, .int .i64 0, .string (strOfNums l0)] 31 (0, 0)) (by (with_reducible repeat (first | refine blk_drewN ?_ _ | refine blk_drew ?_ | refine blk_alloc ?_ _)); exact BK251.out)) : gb251 ≠ gb266)); have n13_ := Aside0.mk ((by rw [hg]; exact Nat.ne_of_gt (blk_lt (g := gb251) (o := .cells #[.int .i64 4, .int .i64 0, .int .i64 0, .string (strOfNums l0)] 31 (0, 0)) (by (with_reducible repeat (first | refine blk_drewN ?_ _ | refine blk_drew ?_ | refine blk_alloc ?_ _)); exact BK251.out)) : gb266 ≠ gb251)); have n14_ := Aside0.mk ((by rw [hg]; exact Nat.ne_of_lt (blk_lt (g := gb259) (o := .cells #[.int .i64 t253, .int .i64 t254, .int .i64 t255, .string t256] 31 (0, 0)) (by (with_reducible repeat (first | refine blk_drewN ?_ _ | refine blk_drew ?_ | refine blk_alloc ?_ _)); exact BK259.out)) : gb259 ≠ gb266)); have n15_ := Aside0.mk ((by rw [hg]; exact Nat.ne_of_gt (blk_lt (g := gb259) (o := .cells #[.int .i64 t253, .int .i64 t254, .int .i64 t255, .string t256] 31 (0, 0)) (by (with_reducible repeat (first | refine blk_drewN ?_ _ | refine blk_drew ?_ | refine blk_alloc ?_ _)); exact BK259.out)) : gb266 ≠ gb259)); clear BK242; clear BK250; clear BK251; clear BK259; clear HB; have BK242 := n0_; have BK250 := n1_; have BK251 := n2_; have BK259 := n3_; have HB := n4_; have BK266 := n5_; have GW266 := n6_; have GE266 := n7_; have NB242_266 := n8_; have NB266_242 := n9_; have NB250_266 := n10_; have NB266_250 := n11_; have NB251_266 := n12_; have NB266_251 := n13_; have NB259_266 := n14_; have NB266_259 := n15_; clear n0_ n1_ n2_ n3_ n4_ n5_ n6_ n7_ n8_ n9_ n10_ n11_ n12_ n13_ n14_ n15_; clear hb hbox hg; have hnb39 := NB266_242.out; have hnc39 := NB242_266.out; have hnb40 := NB266_250.out; have hnc40 := NB250_266.out; have hnb41 := NB266_251.out; have hnc41 := NB251_266.out; have hnb42 := NB266_259.out; have hnc42 := NB259_266.out; have hcz43_0 : w38.cell? ⟨gb266, 0, none⟩ = some (.int .i64 0) := (blk_cell BK266.out 0).trans rfl; have hcz43_1 : w38.cell? ⟨gb266, 1, none⟩ = some (.int .i64 0) := (blk_cell BK266.out 1).trans rfl; have hcz43_2 : w38.cell? ⟨gb266, 2, none⟩ = some (.int .i64 0) := (blk_cell BK266.out 2).trans rfl; have hcz43_3 : w38.cell? ⟨gb266, 3, none⟩ = some (.string (⟨#[]⟩ : ByteArray)) := (blk_cell BK266.out 3).trans rfl; have hfz43_0 := blk_frozen BK266.out 0; have hfz43_1 := blk_frozen BK266.out 1; have hfz43_2 := blk_frozen BK266.out 2; have hfz43_3 := blk_frozen BK266.out 3))
            repeat (go_quiet (first | (go_at_call 13; (with_reducible refine (tok_Next.calls k1 (x16_1 ++ x17_1) 0 t260 t261 t262 t263 t264 t265 _ ?side1 A35.out).mono ?_); (case side1 => exact GW.below (by repeat (first | (with_reducible first | exact HB.out | apply below_alloc | apply pw_below_drewN | apply below_drew1 | refine below_set ?_ GE242.out | refine below_set ?_ GE250.out | refine below_set ?_ GE251.out | refine below_set ?_ GE259.out) | exact HB.out)) HG.out); rintro e w37 ⟨rfl, hb⟩; have n0_ := Aside0.mk (blk_below (g := gb242) (o := .cells #[.int .i64 5, .int .i64 0, .int .i64 0, .string (strOfNums l0)] 31 (0, 0)) (by (with_reducible repeat (first | refine blk_drewN ?_ _ | refine blk_drew ?_ | refine blk_alloc ?_ _)); exact BK242.out) hb); have n1_ := Aside0.mk (blk_below (g := gb250) (o := .cells #[.int .i64 t244, .int .i64 t245, .int .i64 t246, .string t247] 31 (0, 0)) (by (with_reducible repeat (first | refine blk_drewN ?_ _ | refine blk_drew ?_ | refine blk_alloc ?_ _)); exact BK250.out) hb); have n2_ := Aside0.mk (blk_below (g := gb251) (o := .cells #[.int .i64 4, .int .i64 0, .int .i64 0, .string (strOfNums l0)] 31 (0, 0)) (by (with_reducible repeat (first | refine blk_drewN ?_ _ | refine blk_drew ?_ | refine blk_alloc ?_ _)); exact BK251.out) hb); have n3_ := Aside0.mk (blk_below (g := gb259) (o := .cells #[.int .i64 t253, .int .i64 t254, .int .i64 t255, .string t256] 31 (0, 0)) (by (with_reducible repeat (first | refine blk_drewN ?_ _ | refine blk_drew ?_ | refine blk_alloc ?_ _)); exact BK259.out) hb); have n4_ := Aside0.mk (below_step (by repeat (first | (with_reducible first | exact HB.out | apply below_alloc | apply pw_below_drewN | apply below_drew1 | refine below_set ?_ GE242.out | refine below_set ?_ GE250.out | refine below_set ?_ GE251.out | refine below_set ?_ GE259.out) | exact HB.out)) hb); clear BK242; clear BK250; clear BK251; clear BK259; clear HB; have BK242 := n0_; have BK250 := n1_; have BK251 := n2_; have BK259 := n3_; have HB := n4_; clear n0_ n1_ n2_ n3_ n4_; (try clear hb); (try clear hb2); (try clear hk); (try clear hi)) | ((with_reducible refine gate_dst (N := 19) rfl ?_); (try (refine gate_guard (by rfl) ?_; dsimp only)); refine box_event ?hg (N := 19) ?hd (cs := #[.int .i64 0, .int .i64 0, .int .i64 0, .string (⟨#[]⟩ : ByteArray)]) (t := 31) ?hr ?_; (case hd => rfl); (case hg => rfl); (case hr => first | (go_simp; done) | (go_simp; rfl)); intro gb266 hg w38 hbox hb; have n0_ := Aside0.mk (blk_below (g := gb242) (o := .cells #[.int .i64 5, .int .i64 0, .int .i64 0, .string (strOfNums l0)] 31 (0, 0)) (by (with_reducible repeat (first | refine blk_drewN ?_ _ | refine blk_drew ?_ | refine blk_alloc ?_ _)); exact BK242.out) hb); have n1_ := Aside0.mk (blk_below (g := gb250) (o := .cells #[.int .i64 t244, .int .i64 t245, .int .i64 t246, .string t247] 31 (0, 0)) (by (with_reducible repeat (first | refine blk_drewN ?_ _ | refine blk_drew ?_ | refine blk_alloc ?_ _)); exact BK250.out) hb); have n2_ := Aside0.mk (blk_below (g := gb251) (o := .cells #[.int .i64 4, .int .i64 0, .int .i64 0, .string (strOfNums l0)] 31 (0, 0)) (by (with_reducible repeat (first | refine blk_drewN ?_ _ | refine blk_drew ?_ | refine blk_alloc ?_ _)); exact BK251.out) hb); have n3_ := Aside0.mk (blk_below (g := gb259) (o := .cells #[.int .i64 t253, .int .i64 t254, .int .i64 t255, .string t256] 31 (0, 0)) (by (with_reducible repeat (first | refine blk_drewN ?_ _ | refine blk_drew ?_ | refine blk_alloc ?_ _)); exact BK259.out) hb); have n4_ := Aside0.mk (below_step (by repeat (first | (with_reducible first | exact HB.out | apply below_alloc | apply pw_below_drewN | apply below_drew1 | refine below_set ?_ GE242.out | refine below_set ?_ GE250.out | refine below_set ?_ GE251.out | refine below_set ?_ GE259.out) | exact HB.out)) hb); have n5_ := Aside0.mk (hbox); have n6_ := Aside0.mk ((by rw [hg]; exact (below_size (by repeat (first | (with_reducible first | exact HB.out | apply below_alloc | apply pw_below_drewN | apply below_drew1 | refine below_set ?_ GE242.out | refine below_set ?_ GE250.out | refine below_set ?_ GE251.out | refine below_set ?_ GE259.out) | exact HB.out))) : w.heap.size ≤ gb266)); have n7_ := Aside0.mk ((by rw [hg]; exact (below_size (by repeat (first | (with_reducible first | exact HB.out | apply below_alloc | apply pw_below_drewN | apply below_drew1 | refine below_set ?_ GE242.out | refine below_set ?_ GE250.out | refine below_set ?_ GE251.out | refine below_set ?_ GE259.out) | exact HB.out))) : w.heap.size ≤ gb266)); have n8_ := Aside0.mk ((by rw [hg]; exact Nat.ne_of_lt (blk_lt (g := gb242) (o := .cells #[.int .i64 5, .int .i64 0, .int .i64 0, .string (strOfNums l0)] 31 (0, 0)) (by (with_reducible repeat (first | refine blk_drewN ?_ _ | refine blk_drew ?_ | refine blk_alloc ?_ _)); exact BK242.out)) : gb242 ≠ gb266)); have n9_ := Aside0.mk ((by rw [hg]; exact Nat.ne_of_gt (blk_lt (g := gb242) (o := .cells #[.int .i64 5, .int .i64 0, .int .i64 0, .string (strOfNums l0)] 31 (0, 0)) (by (with_reducible repeat (first | refine blk_drewN ?_ _ | refine blk_drew ?_ | refine blk_alloc ?_ _)); exact BK242.out)) : gb266 ≠ gb242)); have n10_ := Aside0.mk ((by rw [hg]; exact Nat.ne_of_lt (blk_lt (g := gb250) (o := .cells #[.int .i64 t244, .int .i64 t245, .int .i64 t246, .string t247] 31 (0, 0)) (by (with_reducible repeat (first | refine blk_drewN ?_ _ | refine blk_drew ?_ | refine blk_alloc ?_ _)); exact BK250.out)) : gb250 ≠ gb266)); have n11_ := Aside0.mk ((by rw [hg]; exact Nat.ne_of_gt (blk_lt (g := gb250) (o := .cells #[.int .i64 t244, .int .i64 t245, .int .i64 t246, .string t247] 31 (0, 0)) (by (with_reducible repeat (first | refine blk_drewN ?_ _ | refine blk_drew ?_ | refine blk_alloc ?_ _)); exact BK250.out)) : gb266 ≠ gb250)); have n12_ := Aside0.mk ((by rw [hg]; exact Nat.ne_of_lt (blk_lt (g := gb251) (o := .cells #[.int .i64 4, .int .i64 0, .int .i64 0, .string (strOfNums l0)] 31 (0, 0)) (by (with_reducible repeat (first | refine blk_drewN ?_ _ | refine blk_drew ?_ | refine blk_alloc ?_ _)); exact BK251.out)) : gb251 ≠ gb266)); have n13_ := Aside0.mk ((by rw [hg]; exact Nat.ne_of_gt (blk_lt (g := gb251) (o := .cells #[.int .i64 4, .int .i64 0, .int .i64 0, .string (strOfNums l0)] 31 (0, 0)) (by (with_reducible repeat (first | refine blk_drewN ?_ _ | refine blk_drew ?_ | refine blk_alloc ?_ _)); exact BK251.out)) : gb266 ≠ gb251)); have n14_ := Aside0.mk ((by rw [hg]; exact Nat.ne_of_lt (blk_lt (g := gb259) (o := .cells #[.int .i64 t253, .int .i64 t254, .int .i64 t255, .string t256] 31 (0, 0)) (by (with_reducible repeat (first | refine blk_drewN ?_ _ | refine blk_drew ?_ | refine blk_alloc ?_ _)); exact BK259.out)) : gb259 ≠ gb266)); have n15_ := Aside0.mk ((by rw [hg]; exact Nat.ne_of_gt (blk_lt (g := gb259) (o := .cells #[.int .i64 t253, .int .i64 t254, .int .i64 t255, .string t256] 31 (0, 0)) (by (with_reducible repeat (first | refine blk_drewN ?_ _ | refine blk_drew ?_ | refine blk_alloc ?_ _)); exact BK259.out)) : gb266 ≠ gb259)); clear BK242; clear BK250; clear BK251; clear BK259; clear HB; have BK242 := n0_; have BK250 := n1_; have BK251 := n2_; have BK259 := n3_; have HB := n4_; have BK266 := n5_; have GW266 := n6_; have GE266 := n7_; have NB242_266 := n8_; have NB266_242 := n9_; have NB250_266 := n10_; have NB266_250 := n11_; have NB251_266 := n12_; have NB266_251 := n13_; have NB259_266 := n14_; have NB266_259 := n15_; clear n0_ n1_ n2_ n3_ n4_ n5_ n6_ n7_ n8_ n9_ n10_ n11_ n12_ n13_ n14_ n15_; clear hb hbox hg; have hnb39 := NB266_242.out; have hnc39 := NB242_266.out; have hnb40 := NB266_250.out; have hnc40 := NB250_266.out; have hnb41 := NB266_251.out; have hnc41 := NB251_266.out; have hnb42 := NB266_259.out; have hnc42 := NB259_266.out; have hcz43_0 : w38.cell? ⟨gb266, 0, none⟩ = some (.int .i64 0) := (blk_cell BK266.out 0).trans rfl; have hcz43_1 : w38.cell? ⟨gb266, 1, none⟩ = some (.int .i64 0) := (blk_cell BK266.out 1).trans rfl; have hcz43_2 : w38.cell? ⟨gb266, 2, none⟩ = some (.int .i64 0) := (blk_cell BK266.out 2).trans rfl; have hcz43_3 : w38.cell? ⟨gb266, 3, none⟩ = some (.string (⟨#[]⟩ : ByteArray)) := (blk_cell BK266.out 3).trans rfl; have hfz43_0 := blk_frozen BK266.out 0; have hfz43_1 := blk_frozen BK266.out 1; have hfz43_2 := blk_frozen BK266.out 2; have hfz43_3 := blk_frozen BK266.out 3)); go_upto_region 18 with (first | (go_at_call 13; (with_reducible refine (tok_Next.calls k1 (x16_1 ++ x17_1) 0 t260 t261 t262 t263 t264 t265 _ ?side1 A35.out).mono ?_); (case side1 => exact GW.below (by repeat (first | (with_reducible first | exact HB.out | apply below_alloc | apply pw_below_drewN | apply below_drew1 | refine below_set ?_ GE242.out | refine below_set ?_ GE250.out | refine below_set ?_ GE251.out | refine below_set ?_ GE259.out) | exact HB.out)) HG.out); rintro e w37 ⟨rfl, hb⟩; have n0_ := Aside0.mk (blk_below (g := gb242) (o := .cells #[.int .i64 5, .int .i64 0, .int .i64 0, .string (strOfNums l0)] 31 (0, 0)) (by (with_reducible repeat (first | refine blk_drewN ?_ _ | refine blk_drew ?_ | refine blk_alloc ?_ _)); exact BK242.out) hb); have n1_ := Aside0.mk (blk_below (g := gb250) (o := .cells #[.int .i64 t244, .int .i64 t245, .int .i64 t246, .string t247] 31 (0, 0)) (by (with_reducible repeat (first | refine blk_drewN ?_ _ | refine blk_drew ?_ | refine blk_alloc ?_ _)); exact BK250.out) hb); have n2_ := Aside0.mk (blk_below (g := gb251) (o := .cells #[.int .i64 4, .int .i64 0, .int .i64 0, .string (strOfNums l0)] 31 (0, 0)) (by (with_reducible repeat (first | refine blk_drewN ?_ _ | refine blk_drew ?_ | refine blk_alloc ?_ _)); exact BK251.out) hb); have n3_ := Aside0.mk (blk_below (g := gb259) (o := .cells #[.int .i64 t253, .int .i64 t254, .int .i64 t255, .string t256] 31 (0, 0)) (by (with_reducible repeat (first | refine blk_drewN ?_ _ | refine blk_drew ?_ | refine blk_alloc ?_ _)); exact BK259.out) hb); have n4_ := Aside0.mk (below_step (by repeat (first | (with_reducible first | exact HB.out | apply below_alloc | apply pw_below_drewN | apply below_drew1 | refine below_set ?_ GE242.out | refine below_set ?_ GE250.out | refine below_set ?_ GE251.out | refine below_set ?_ GE259.out) | exact HB.out)) hb); clear BK242; clear BK250; clear BK251; clear BK259; clear HB; have BK242 := n0_; have BK250 := n1_; have BK251 := n2_; have BK259 := n3_; have HB := n4_; clear n0_ n1_ n2_ n3_ n4_; (try clear hb); (try clear hb2); (try clear hk); (try clear hi)) | ((with_reducible refine gate_dst (N := 19) rfl ?_); (try (refine gate_guard (by rfl) ?_; dsimp only)); refine box_event ?hg (N := 19) ?hd (cs := #[.int .i64 0, .int .i64 0, .int .i64 0, .string (⟨#[]⟩ : ByteArray)]) (t := 31) ?hr ?_; (case hd => rfl); (case hg => rfl); (case hr => first | (go_simp; done) | (go_simp; rfl)); intro gb266 hg w38 hbox hb; have n0_ := Aside0.mk (blk_below (g := gb242) (o := .cells #[.int .i64 5, .int .i64 0, .int .i64 0, .string (strOfNums l0)] 31 (0, 0)) (by (with_reducible repeat (first | refine blk_drewN ?_ _ | refine blk_drew ?_ | refine blk_alloc ?_ _)); exact BK242.out) hb); have n1_ := Aside0.mk (blk_below (g := gb250) (o := .cells #[.int .i64 t244, .int .i64 t245, .int .i64 t246, .string t247] 31 (0, 0)) (by (with_reducible repeat (first | refine blk_drewN ?_ _ | refine blk_drew ?_ | refine blk_alloc ?_ _)); exact BK250.out) hb); have n2_ := Aside0.mk (blk_below (g := gb251) (o := .cells #[.int .i64 4, .int .i64 0, .int .i64 0, .string (strOfNums l0)] 31 (0, 0)) (by (with_reducible repeat (first | refine blk_drewN ?_ _ | refine blk_drew ?_ | refine blk_alloc ?_ _)); exact BK251.out) hb); have n3_ := Aside0.mk (blk_below (g := gb259) (o := .cells #[.int .i64 t253, .int .i64 t254, .int .i64 t255, .string t256] 31 (0, 0)) (by (with_reducible repeat (first | refine blk_drewN ?_ _ | refine blk_drew ?_ | refine blk_alloc ?_ _)); exact BK259.out) hb); have n4_ := Aside0.mk (below_step (by repeat (first | (with_reducible first | exact HB.out | apply below_alloc | apply pw_below_drewN | apply below_drew1 | refine below_set ?_ GE242.out | refine below_set ?_ GE250.out | refine below_set ?_ GE251.out | refine below_set ?_ GE259.out) | exact HB.out)) hb); have n5_ := Aside0.mk (hbox); have n6_ := Aside0.mk ((by rw [hg]; exact (below_size (by repeat (first | (with_reducible first | exact HB.out | apply below_alloc | apply pw_below_drewN | apply below_drew1 | refine below_set ?_ GE242.out | refine below_set ?_ GE250.out | refine below_set ?_ GE251.out | refine below_set ?_ GE259.out) | exact HB.out))) : w.heap.size ≤ gb266)); have n7_ := Aside0.mk ((by rw [hg]; exact (below_size (by repeat (first | (with_reducible first | exact HB.out | apply below_alloc | apply pw_below_drewN | apply below_drew1 | refine below_set ?_ GE242.out | refine below_set ?_ GE250.out | refine below_set ?_ GE251.out | refine below_set ?_ GE259.out) | exact HB.out))) : w.heap.size ≤ gb266)); have n8_ := Aside0.mk ((by rw [hg]; exact Nat.ne_of_lt (blk_lt (g := gb242) (o := .cells #[.int .i64 5, .int .i64 0, .int .i64 0, .string (strOfNums l0)] 31 (0, 0)) (by (with_reducible repeat (first | refine blk_drewN ?_ _ | refine blk_drew ?_ | refine blk_alloc ?_ _)); exact BK242.out)) : gb242 ≠ gb266)); have n9_ := Aside0.mk ((by rw [hg]; exact Nat.ne_of_gt (blk_lt (g := gb242) (o := .cells #[.int .i64 5, .int .i64 0, .int .i64 0, .string (strOfNums l0)] 31 (0, 0)) (by (with_reducible repeat (first | refine blk_drewN ?_ _ | refine blk_drew ?_ | refine blk_alloc ?_ _)); exact BK242.out)) : gb266 ≠ gb242)); have n10_ := Aside0.mk ((by rw [hg]; exact Nat.ne_of_lt (blk_lt (g := gb250) (o := .cells #[.int .i64 t244, .int .i64 t245, .int .i64 t246, .string t247] 31 (0, 0)) (by (with_reducible repeat (first | refine blk_drewN ?_ _ | refine blk_drew ?_ | refine blk_alloc ?_ _)); exact BK250.out)) : gb250 ≠ gb266)); have n11_ := Aside0.mk ((by rw [hg]; exact Nat.ne_of_gt (blk_lt (g := gb250) (o := .cells #[.int .i64 t244, .int .i64 t245, .int .i64 t246, .string t247] 31 (0, 0)) (by (with_reducible repeat (first | refine blk_drewN ?_ _ | refine blk_drew ?_ | refine blk_alloc ?_ _)); exact BK250.out)) : gb266 ≠ gb250)); have n12_ := Aside0.mk ((by rw [hg]; exact Nat.ne_of_lt (blk_lt (g := gb251) (o := .cells #[.int .i64 4, .int .i64 0, .int .i64 0, .string (strOfNums l0)] 31 (0, 0)) (by (with_reducible repeat (first | refine blk_drewN ?_ _ | refine blk_drew ?_ | refine blk_alloc ?_ _)); exact BK251.out)) : gb251 ≠ gb266)); have n13_ := Aside0.mk ((by rw [hg]; exact Nat.ne_of_gt (blk_lt (g := gb251) (o := .cells #[.int .i64 4, .int .i64 0, .int .i64 0, .string (strOfNums l0)] 31 (0, 0)) (by (with_reducible repeat (first | refine blk_drewN ?_ _ | refine blk_drew ?_ | refine blk_alloc ?_ _)); exact BK251.out)) : gb266 ≠ gb251)); have n14_ := Aside0.mk ((by rw [hg]; exact Nat.ne_of_lt (blk_lt (g := gb259) (o := .cells #[.int .i64 t253, .int .i64 t254, .int .i64 t255, .string t256] 31 (0, 0)) (by (with_reducible repeat (first | refine blk_drewN ?_ _ | refine blk_drew ?_ | refine blk_alloc ?_ _)); exact BK259.out)) : gb259 ≠ gb266)); have n15_ := Aside0.mk ((by rw [hg]; exact Nat.ne_of_gt (blk_lt (g := gb259) (o := .cells #[.int .i64 t253, .int .i64 t254, .int .i64 t255, .string t256] 31 (0, 0)) (by (with_reducible repeat (first | refine blk_drewN ?_ _ | refine blk_drew ?_ | refine blk_alloc ?_ _)); exact BK259.out)) : gb266 ≠ gb259)); clear BK242; clear BK250; clear BK251; clear BK259; clear HB; have BK242 := n0_; have BK250 := n1_; have BK251 := n2_; have BK259 := n3_; have HB := n4_; have BK266 := n5_; have GW266 := n6_; have GE266 := n7_; have NB242_266 := n8_; have NB266_242 := n9_; have NB250_266 := n10_; have NB266_250 := n11_; have NB251_266 := n12_; have NB266_251 := n13_; have NB259_266 := n14_; have NB266_259 := n15_; clear n0_ n1_ n2_ n3_ n4_ n5_ n6_ n7_ n8_ n9_ n10_ n11_ n12_ n13_ n14_ n15_; clear hb hbox hg; have hnb39 := NB266_242.out; have hnc39 := NB242_266.out; have hnb40 := NB266_250.out; have hnc40 := NB250_266.out; have hnb41 := NB266_251.out; have hnc41 := NB251_266.out; have hnb42 := NB266_259.out; have hnc42 := NB259_266.out; have hcz43_0 : w38.cell? ⟨gb266, 0, none⟩ = some (.int .i64 0) := (blk_cell BK266.out 0).trans rfl; have hcz43_1 : w38.cell? ⟨gb266, 1, none⟩ = some (.int .i64 0) := (blk_cell BK266.out 1).trans rfl; have hcz43_2 : w38.cell? ⟨gb266, 2, none⟩ = some (.int .i64 0) := (blk_cell BK266.out 2).trans rfl; have hcz43_3 : w38.cell? ⟨gb266, 3, none⟩ = some (.string (⟨#[]⟩ : ByteArray)) := (blk_cell BK266.out 3).trans rfl; have hfz43_0 := blk_frozen BK266.out 0; have hfz43_1 := blk_frozen BK266.out 1; have hfz43_2 := blk_frozen BK266.out 2; have hfz43_3 := blk_frozen BK266.out 3)))
            (try simp only [Act.put, List.setIfInBounds_toArray, List.set_cons_zero, List.set_cons_succ])
            go_cut [88] (fun v88 wc => ∃ (kq : Nat) (x88_35 : Bool), v88 = .bool x88_35 ∧ Aside0 (hornbooklaw04_TokStrings.j1 kq t241 (Go.bits .and .i64 a1 63) x16_1 x17_1 t265 x88_35 t260 t261 t262 t263 = some r) ∧ Aside0 (kq ≤ k1) ∧ Aside0 (wc.heap[gb242]? = some (.cells #[.int .i64 5, .int .i64 0, .int .i64 0, .string (strOfNums l0)] 31 (0, 0))) ∧ Aside0 (wc.heap[gb250]? = some (.cells #[.int .i64 t244, .int .i64 t245, .int .i64 t246, .string t247] 31 (0, 0))) ∧ Aside0 (wc.heap[gb251]? = some (.cells #[.int .i64 4, .int .i64 0, .int .i64 0, .string (strOfNums l0)] 31 (0, 0))) ∧ Aside0 (wc.heap[gb259]? = some (.cells #[.int .i64 t253, .int .i64 t254, .int .i64 t255, .string t256] 31 (0, 0))) ∧ Aside0 (wc.heap[gb266]? = some (.cells #[.int .i64 t260, .int .i64 t261, .int .i64 t262, .string t263] 31 (0, 0))) ∧ Aside0 (Below w.heap.size w wc))
            case first =>
              have H := HC36.out
              clear HC36
              by_cases c44 : t249 = 0
              · rw [if_pos c44] at H
                have c44b0 : (t249 == 0) = true := beq_iff_eq.mpr c44
                have c44b1 : (t249 != 0) = false := bne_eq_false_iff_eq.mpr c44
                clear c44
                (first | rw [c44b0] | (simp only [i64_w, i32_w]; rw [c44b0]) | skip)
                by_cases c45 : (!(t244 == 5) || (!(t245 == 0) || (!(t246 == 0) || (!(t247.toList == (strOfNums l0).toList))))) = true
                · rw [if_pos c45] at H
                  have c45b0 : (!(t244 == 5) || (!(t245 == 0) || (!(t246 == 0) || (!(t247.toList == (strOfNums l0).toList))))) = true := c45
                  (try (have c45b1 : ¬ (((t244 = 5) ∧ ((t245 = 0) ∧ ((t246 = 0) ∧ ((t247.toList = (strOfNums l0).toList)))))) := by first | simpa using c45 | (intro h_; simp [h_] at c45)))
                  clear c45
                  have H' := Aside0.mk H
                  clear H
                  have hnb46 := NB250_242.out
                  have hnc46 := NB242_250.out
                  have hnb47 := NB250_251.out
                  have hnc47 := NB251_250.out
                  have hnb48 := NB250_259.out
                  have hnc48 := NB259_250.out
                  have hnb49 := NB250_266.out
                  have hnc49 := NB266_250.out
                  have hcz50_0 : w38.cell? ⟨gb250, 0, none⟩ = some (.int .i64 t244) := (blk_cell BK250.out 0).trans rfl
                  have hcz50_1 : w38.cell? ⟨gb250, 1, none⟩ = some (.int .i64 t245) := (blk_cell BK250.out 1).trans rfl
                  have hcz50_2 : w38.cell? ⟨gb250, 2, none⟩ = some (.int .i64 t246) := (blk_cell BK250.out 2).trans rfl
                  have hcz50_3 : w38.cell? ⟨gb250, 3, none⟩ = some (.string t247) := (blk_cell BK250.out 3).trans rfl
                  have hfz50_0 := blk_frozen BK250.out 0
                  have hfz50_1 := blk_frozen BK250.out 1
                  have hfz50_2 := blk_frozen BK250.out 2
                  have hfz50_3 := blk_frozen BK250.out 3
                  have hnb51 := NB242_251.out
                  have hnc51 := NB251_242.out
                  have hnb52 := NB242_259.out
                  have hnc52 := NB259_242.out
                  have hnb53 := NB242_266.out
                  have hnc53 := NB266_242.out
                  have hcz54_0 : w38.cell? ⟨gb242, 0, none⟩ = some (.int .i64 5) := (blk_cell BK242.out 0).trans rfl
                  have hcz54_1 : w38.cell? ⟨gb242, 1, none⟩ = some (.int .i64 0) := (blk_cell BK242.out 1).trans rfl
                  have hcz54_2 : w38.cell? ⟨gb242, 2, none⟩ = some (.int .i64 0) := (blk_cell BK242.out 2).trans rfl
                  have hcz54_3 : w38.cell? ⟨gb242, 3, none⟩ = some (.string (strOfNums l0)) := (blk_cell BK242.out 3).trans rfl
                  have hfz54_0 := blk_frozen BK242.out 0
                  have hfz54_1 := blk_frozen BK242.out 1
                  have hfz54_2 := blk_frozen BK242.out 2
                  have hfz54_3 := blk_frozen BK242.out 3
                  go_wp2
                  repeat (go_quiet (fail); try go_wp2)
                  go_meet
                  case rel => exact ⟨_, (true), (by first | rfl | (simp; done) | (simp [*]; done)), H', ⟨by have := HK1.out; first | omega | exact Nat.le_refl _⟩, ⟨by (with_reducible repeat (first | refine blk_drewN ?_ _ | refine blk_drew ?_ | refine blk_alloc ?_ _)); refine blk_far ?_ NB242_266.out _; (with_reducible repeat (first | refine blk_drewN ?_ _ | refine blk_drew ?_ | refine blk_alloc ?_ _)); refine blk_far ?_ NB242_266.out _; (with_reducible repeat (first | refine blk_drewN ?_ _ | refine blk_drew ?_ | refine blk_alloc ?_ _)); refine blk_far ?_ NB242_266.out _; (with_reducible repeat (first | refine blk_drewN ?_ _ | refine blk_drew ?_ | refine blk_alloc ?_ _)); refine blk_far ?_ NB242_266.out _; (with_reducible repeat (first | refine blk_drewN ?_ _ | refine blk_drew ?_ | refine blk_alloc ?_ _)); exact BK242.out⟩, ⟨by (with_reducible repeat (first | refine blk_drewN ?_ _ | refine blk_drew ?_ | refine blk_alloc ?_ _)); refine blk_far ?_ NB250_266.out _; (with_reducible repeat (first | refine blk_drewN ?_ _ | refine blk_drew ?_ | refine blk_alloc ?_ _)); refine blk_far ?_ NB250_266.out _; (with_reducible repeat (first | refine blk_drewN ?_ _ | refine blk_drew ?_ | refine blk_alloc ?_ _)); refine blk_far ?_ NB250_266.out _; (with_reducible repeat (first | refine blk_drewN ?_ _ | refine blk_drew ?_ | refine blk_alloc ?_ _)); refine blk_far ?_ NB250_266.out _; (with_reducible repeat (first | refine blk_drewN ?_ _ | refine blk_drew ?_ | refine blk_alloc ?_ _)); exact BK250.out⟩, ⟨by (with_reducible repeat (first | refine blk_drewN ?_ _ | refine blk_drew ?_ | refine blk_alloc ?_ _)); refine blk_far ?_ NB251_266.out _; (with_reducible repeat (first | refine blk_drewN ?_ _ | refine blk_drew ?_ | refine blk_alloc ?_ _)); refine blk_far ?_ NB251_266.out _; (with_reducible repeat (first | refine blk_drewN ?_ _ | refine blk_drew ?_ | refine blk_alloc ?_ _)); refine blk_far ?_ NB251_266.out _; (with_reducible repeat (first | refine blk_drewN ?_ _ | refine blk_drew ?_ | refine blk_alloc ?_ _)); refine blk_far ?_ NB251_266.out _; (with_reducible repeat (first | refine blk_drewN ?_ _ | refine blk_drew ?_ | refine blk_alloc ?_ _)); exact BK251.out⟩, ⟨by (with_reducible repeat (first | refine blk_drewN ?_ _ | refine blk_drew ?_ | refine blk_alloc ?_ _)); refine blk_far ?_ NB259_266.out _; (with_reducible repeat (first | refine blk_drewN ?_ _ | refine blk_drew ?_ | refine blk_alloc ?_ _)); refine blk_far ?_ NB259_266.out _; (with_reducible repeat (first | refine blk_drewN ?_ _ | refine blk_drew ?_ | refine blk_alloc ?_ _)); refine blk_far ?_ NB259_266.out _; (with_reducible repeat (first | refine blk_drewN ?_ _ | refine blk_drew ?_ | refine blk_alloc ?_ _)); refine blk_far ?_ NB259_266.out _; (with_reducible repeat (first | refine blk_drewN ?_ _ | refine blk_drew ?_ | refine blk_alloc ?_ _)); exact BK259.out⟩, ⟨by (with_reducible repeat (first | refine blk_drewN ?_ _ | refine blk_drew ?_ | refine blk_alloc ?_ _)); refine blk_put (cs := #[.int .i64 t260, .int .i64 t261, .int .i64 t262, .string (⟨#[]⟩ : ByteArray)]) ?_ 3 _ rfl; (with_reducible repeat (first | refine blk_drewN ?_ _ | refine blk_drew ?_ | refine blk_alloc ?_ _)); refine blk_put (cs := #[.int .i64 t260, .int .i64 t261, .int .i64 0, .string (⟨#[]⟩ : ByteArray)]) ?_ 2 _ rfl; (with_reducible repeat (first | refine blk_drewN ?_ _ | refine blk_drew ?_ | refine blk_alloc ?_ _)); refine blk_put (cs := #[.int .i64 t260, .int .i64 0, .int .i64 0, .string (⟨#[]⟩ : ByteArray)]) ?_ 1 _ rfl; (with_reducible repeat (first | refine blk_drewN ?_ _ | refine blk_drew ?_ | refine blk_alloc ?_ _)); refine blk_put (cs := #[.int .i64 0, .int .i64 0, .int .i64 0, .string (⟨#[]⟩ : ByteArray)]) ?_ 0 _ rfl; (with_reducible repeat (first | refine blk_drewN ?_ _ | refine blk_drew ?_ | refine blk_alloc ?_ _)); exact BK266.out⟩, ⟨by repeat (first | (with_reducible first | exact HB.out | apply below_alloc | apply pw_below_drewN | apply below_drew1 | refine below_set ?_ GE242.out | refine below_set ?_ GE250.out | refine below_set ?_ GE251.out | refine below_set ?_ GE259.out | refine below_set ?_ GE266.out) | exact HB.out)⟩⟩
                · rw [if_neg c45] at H
                  have c45b0 : (!(t244 == 5) || (!(t245 == 0) || (!(t246 == 0) || (!(t247.toList == (strOfNums l0).toList))))) = false := by simpa using c45
                  (try (have c45b1 : (((t244 = 5) ∧ ((t245 = 0) ∧ ((t246 = 0) ∧ ((t247.toList = (strOfNums l0).toList)))))) = True := eq_true (by simpa using c45)))
                  (try (have c45b2 : ((t244 = 5) ∧ ((t245 = 0) ∧ ((t246 = 0) ∧ ((t247.toList = (strOfNums l0).toList))))) := by simpa using c45))
                  clear c45
                  by_cases c55 : t248 = (t243.size : Int)
                  · rw [if_pos c55] at H
                    have c55b0 : (t248 == (t243.size : Int)) = true := beq_iff_eq.mpr c55
                    have c55b1 : (t248 != (t243.size : Int)) = false := bne_eq_false_iff_eq.mpr c55
                    clear c55
                    by_cases c56 : t258 = 0
                    · rw [if_pos c56] at H
                      have c56b0 : (t258 == 0) = true := beq_iff_eq.mpr c56
                      have c56b1 : (t258 != 0) = false := bne_eq_false_iff_eq.mpr c56
                      clear c56
                      have H' := Aside0.mk H
                      clear H
                      have hnb57 := NB250_242.out
                      have hnc57 := NB242_250.out
                      have hnb58 := NB250_251.out
                      have hnc58 := NB251_250.out
                      have hnb59 := NB250_259.out
                      have hnc59 := NB259_250.out
                      have hnb60 := NB250_266.out
                      have hnc60 := NB266_250.out
                      have hcz61_0 : w38.cell? ⟨gb250, 0, none⟩ = some (.int .i64 t244) := (blk_cell BK250.out 0).trans rfl
                      have hcz61_1 : w38.cell? ⟨gb250, 1, none⟩ = some (.int .i64 t245) := (blk_cell BK250.out 1).trans rfl
                      have hcz61_2 : w38.cell? ⟨gb250, 2, none⟩ = some (.int .i64 t246) := (blk_cell BK250.out 2).trans rfl
                      have hcz61_3 : w38.cell? ⟨gb250, 3, none⟩ = some (.string t247) := (blk_cell BK250.out 3).trans rfl
                      have hfz61_0 := blk_frozen BK250.out 0
                      have hfz61_1 := blk_frozen BK250.out 1
                      have hfz61_2 := blk_frozen BK250.out 2
                      have hfz61_3 := blk_frozen BK250.out 3
                      have hnb62 := NB242_251.out
                      have hnc62 := NB251_242.out
                      have hnb63 := NB242_259.out
                      have hnc63 := NB259_242.out
                      have hnb64 := NB242_266.out
                      have hnc64 := NB266_242.out
                      have hcz65_0 : w38.cell? ⟨gb242, 0, none⟩ = some (.int .i64 5) := (blk_cell BK242.out 0).trans rfl
                      have hcz65_1 : w38.cell? ⟨gb242, 1, none⟩ = some (.int .i64 0) := (blk_cell BK242.out 1).trans rfl
                      have hcz65_2 : w38.cell? ⟨gb242, 2, none⟩ = some (.int .i64 0) := (blk_cell BK242.out 2).trans rfl
                      have hcz65_3 : w38.cell? ⟨gb242, 3, none⟩ = some (.string (strOfNums l0)) := (blk_cell BK242.out 3).trans rfl
                      have hfz65_0 := blk_frozen BK242.out 0
                      have hfz65_1 := blk_frozen BK242.out 1
                      have hfz65_2 := blk_frozen BK242.out 2
                      have hfz65_3 := blk_frozen BK242.out 3
                      have hnb66 := NB259_251.out
                      have hnc66 := NB251_259.out
                      have hnb67 := NB259_266.out
                      have hnc67 := NB266_259.out
                      have hcz68_0 : w38.cell? ⟨gb259, 0, none⟩ = some (.int .i64 t253) := (blk_cell BK259.out 0).trans rfl
                      have hcz68_1 : w38.cell? ⟨gb259, 1, none⟩ = some (.int .i64 t254) := (blk_cell BK259.out 1).trans rfl
                      have hcz68_2 : w38.cell? ⟨gb259, 2, none⟩ = some (.int .i64 t255) := (blk_cell BK259.out 2).trans rfl
                      have hcz68_3 : w38.cell? ⟨gb259, 3, none⟩ = some (.string t256) := (blk_cell BK259.out 3).trans rfl
                      have hfz68_0 := blk_frozen BK259.out 0
                      have hfz68_1 := blk_frozen BK259.out 1
                      have hfz68_2 := blk_frozen BK259.out 2
                      have hfz68_3 := blk_frozen BK259.out 3
                      have hnb69 := NB251_266.out
                      have hnc69 := NB266_251.out
                      have hcz70_0 : w38.cell? ⟨gb251, 0, none⟩ = some (.int .i64 4) := (blk_cell BK251.out 0).trans rfl
                      have hcz70_1 : w38.cell? ⟨gb251, 1, none⟩ = some (.int .i64 0) := (blk_cell BK251.out 1).trans rfl
                      have hcz70_2 : w38.cell? ⟨gb251, 2, none⟩ = some (.int .i64 0) := (blk_cell BK251.out 2).trans rfl
                      have hcz70_3 : w38.cell? ⟨gb251, 3, none⟩ = some (.string (strOfNums l0)) := (blk_cell BK251.out 3).trans rfl
                      have hfz70_0 := blk_frozen BK251.out 0
                      have hfz70_1 := blk_frozen BK251.out 1
                      have hfz70_2 := blk_frozen BK251.out 2
                      have hfz70_3 := blk_frozen BK251.out 3
                      go_wp2
                      repeat (go_quiet (fail); try go_wp2)
                      go_meet
                      case rel => exact ⟨_, ((!(t253 == 4) || (!(t254 == 0) || (!(t255 == 0) || (!(t256.toList == (strOfNums l0).toList)))))), (by first | rfl | (simp; done) | (simp [*]; done)), H', ⟨by have := HK1.out; first | omega | exact Nat.le_refl _⟩, ⟨by (with_reducible repeat (first | refine blk_drewN ?_ _ | refine blk_drew ?_ | refine blk_alloc ?_ _)); refine blk_far ?_ NB242_266.out _; (with_reducible repeat (first | refine blk_drewN ?_ _ | refine blk_drew ?_ | refine blk_alloc ?_ _)); refine blk_far ?_ NB242_266.out _; (with_reducible repeat (first | refine blk_drewN ?_ _ | refine blk_drew ?_ | refine blk_alloc ?_ _)); refine blk_far ?_ NB242_266.out _; (with_reducible repeat (first | refine blk_drewN ?_ _ | refine blk_drew ?_ | refine blk_alloc ?_ _)); refine blk_far ?_ NB242_266.out _; (with_reducible repeat (first | refine blk_drewN ?_ _ | refine blk_drew ?_ | refine blk_alloc ?_ _)); exact BK242.out⟩, ⟨by (with_reducible repeat (first | refine blk_drewN ?_ _ | refine blk_drew ?_ | refine blk_alloc ?_ _)); refine blk_far ?_ NB250_266.out _; (with_reducible repeat (first | refine blk_drewN ?_ _ | refine blk_drew ?_ | refine blk_alloc ?_ _)); refine blk_far ?_ NB250_266.out _; (with_reducible repeat (first | refine blk_drewN ?_ _ | refine blk_drew ?_ | refine blk_alloc ?_ _)); refine blk_far ?_ NB250_266.out _; (with_reducible repeat (first | refine blk_drewN ?_ _ | refine blk_drew ?_ | refine blk_alloc ?_ _)); refine blk_far ?_ NB250_266.out _; (with_reducible repeat (first | refine blk_drewN ?_ _ | refine blk_drew ?_ | refine blk_alloc ?_ _)); exact BK250.out⟩, ⟨by (with_reducible repeat (first | refine blk_drewN ?_ _ | refine blk_drew ?_ | refine blk_alloc ?_ _)); refine blk_far ?_ NB251_266.out _; (with_reducible repeat (first | refine blk_drewN ?_ _ | refine blk_drew ?_ | refine blk_alloc ?_ _)); refine blk_far ?_ NB251_266.out _; (with_reducible repeat (first | refine blk_drewN ?_ _ | refine blk_drew ?_ | refine blk_alloc ?_ _)); refine blk_far ?_ NB251_266.out _; (with_reducible repeat (first | refine blk_drewN ?_ _ | refine blk_drew ?_ | refine blk_alloc ?_ _)); refine blk_far ?_ NB251_266.out _; (with_reducible repeat (first | refine blk_drewN ?_ _ | refine blk_drew ?_ | refine blk_alloc ?_ _)); exact BK251.out⟩, ⟨by (with_reducible repeat (first | refine blk_drewN ?_ _ | refine blk_drew ?_ | refine blk_alloc ?_ _)); refine blk_far ?_ NB259_266.out _; (with_reducible repeat (first | refine blk_drewN ?_ _ | refine blk_drew ?_ | refine blk_alloc ?_ _)); refine blk_far ?_ NB259_266.out _; (with_reducible repeat (first | refine blk_drewN ?_ _ | refine blk_drew ?_ | refine blk_alloc ?_ _)); refine blk_far ?_ NB259_266.out _; (with_reducible repeat (first | refine blk_drewN ?_ _ | refine blk_drew ?_ | refine blk_alloc ?_ _)); refine blk_far ?_ NB259_266.out _; (with_reducible repeat (first | refine blk_drewN ?_ _ | refine blk_drew ?_ | refine blk_alloc ?_ _)); exact BK259.out⟩, ⟨by (with_reducible repeat (first | refine blk_drewN ?_ _ | refine blk_drew ?_ | refine blk_alloc ?_ _)); refine blk_put (cs := #[.int .i64 t260, .int .i64 t261, .int .i64 t262, .string (⟨#[]⟩ : ByteArray)]) ?_ 3 _ rfl; (with_reducible repeat (first | refine blk_drewN ?_ _ | refine blk_drew ?_ | refine blk_alloc ?_ _)); refine blk_put (cs := #[.int .i64 t260, .int .i64 t261, .int .i64 0, .string (⟨#[]⟩ : ByteArray)]) ?_ 2 _ rfl; (with_reducible repeat (first | refine blk_drewN ?_ _ | refine blk_drew ?_ | refine blk_alloc ?_ _)); refine blk_put (cs := #[.int .i64 t260, .int .i64 0, .int .i64 0, .string (⟨#[]⟩ : ByteArray)]) ?_ 1 _ rfl; (with_reducible repeat (first | refine blk_drewN ?_ _ | refine blk_drew ?_ | refine blk_alloc ?_ _)); refine blk_put (cs := #[.int .i64 0, .int .i64 0, .int .i64 0, .string (⟨#[]⟩ : ByteArray)]) ?_ 0 _ rfl; (with_reducible repeat (first | refine blk_drewN ?_ _ | refine blk_drew ?_ | refine blk_alloc ?_ _)); exact BK266.out⟩, ⟨by repeat (first | (with_reducible first | exact HB.out | apply below_alloc | apply pw_below_drewN | apply below_drew1 | refine below_set ?_ GE242.out | refine below_set ?_ GE250.out | refine below_set ?_ GE251.out | refine below_set ?_ GE259.out | refine below_set ?_ GE266.out) | exact HB.out)⟩⟩
                    · rw [if_neg c56] at H
                      have c56b0 : (t258 == 0) = false := beq_eq_false_iff_ne.mpr c56
                      have c56b1 : (t258 != 0) = true := bne_iff_ne.mpr c56
                      have H' := Aside0.mk H
                      clear H
                      have hnb71 := NB250_242.out
                      have hnc71 := NB242_250.out
                      have hnb72 := NB250_251.out
                      have hnc72 := NB251_250.out
                      have hnb73 := NB250_259.out
                      have hnc73 := NB259_250.out
                      have hnb74 := NB250_266.out
                      have hnc74 := NB266_250.out
                      have hcz75_0 : w38.cell? ⟨gb250, 0, none⟩ = some (.int .i64 t244) := (blk_cell BK250.out 0).trans rfl
                      have hcz75_1 : w38.cell? ⟨gb250, 1, none⟩ = some (.int .i64 t245) := (blk_cell BK250.out 1).trans rfl
                      have hcz75_2 : w38.cell? ⟨gb250, 2, none⟩ = some (.int .i64 t246) := (blk_cell BK250.out 2).trans rfl
                      have hcz75_3 : w38.cell? ⟨gb250, 3, none⟩ = some (.string t247) := (blk_cell BK250.out 3).trans rfl
                      have hfz75_0 := blk_frozen BK250.out 0
                      have hfz75_1 := blk_frozen BK250.out 1
                      have hfz75_2 := blk_frozen BK250.out 2
                      have hfz75_3 := blk_frozen BK250.out 3
                      have hnb76 := NB242_251.out
                      have hnc76 := NB251_242.out
                      have hnb77 := NB242_259.out
                      have hnc77 := NB259_242.out
                      have hnb78 := NB242_266.out
                      have hnc78 := NB266_242.out
                      have hcz79_0 : w38.cell? ⟨gb242, 0, none⟩ = some (.int .i64 5) := (blk_cell BK242.out 0).trans rfl
                      have hcz79_1 : w38.cell? ⟨gb242, 1, none⟩ = some (.int .i64 0) := (blk_cell BK242.out 1).trans rfl
                      have hcz79_2 : w38.cell? ⟨gb242, 2, none⟩ = some (.int .i64 0) := (blk_cell BK242.out 2).trans rfl
                      have hcz79_3 : w38.cell? ⟨gb242, 3, none⟩ = some (.string (strOfNums l0)) := (blk_cell BK242.out 3).trans rfl
                      have hfz79_0 := blk_frozen BK242.out 0
                      have hfz79_1 := blk_frozen BK242.out 1
                      have hfz79_2 := blk_frozen BK242.out 2
                      have hfz79_3 := blk_frozen BK242.out 3
                      go_wp2
                      repeat (go_quiet (fail); try go_wp2)
                      go_meet
                      case rel => exact ⟨_, (true), (by first | rfl | (simp; done) | (simp [*]; done)), H', ⟨by have := HK1.out; first | omega | exact Nat.le_refl _⟩, ⟨by (with_reducible repeat (first | refine blk_drewN ?_ _ | refine blk_drew ?_ | refine blk_alloc ?_ _)); refine blk_far ?_ NB242_266.out _; (with_reducible repeat (first | refine blk_drewN ?_ _ | refine blk_drew ?_ | refine blk_alloc ?_ _)); refine blk_far ?_ NB242_266.out _; (with_reducible repeat (first | refine blk_drewN ?_ _ | refine blk_drew ?_ | refine blk_alloc ?_ _)); refine blk_far ?_ NB242_266.out _; (with_reducible repeat (first | refine blk_drewN ?_ _ | refine blk_drew ?_ | refine blk_alloc ?_ _)); refine blk_far ?_ NB242_266.out _; (with_reducible repeat (first | refine blk_drewN ?_ _ | refine blk_drew ?_ | refine blk_alloc ?_ _)); exact BK242.out⟩, ⟨by (with_reducible repeat (first | refine blk_drewN ?_ _ | refine blk_drew ?_ | refine blk_alloc ?_ _)); refine blk_far ?_ NB250_266.out _; (with_reducible repeat (first | refine blk_drewN ?_ _ | refine blk_drew ?_ | refine blk_alloc ?_ _)); refine blk_far ?_ NB250_266.out _; (with_reducible repeat (first | refine blk_drewN ?_ _ | refine blk_drew ?_ | refine blk_alloc ?_ _)); refine blk_far ?_ NB250_266.out _; (with_reducible repeat (first | refine blk_drewN ?_ _ | refine blk_drew ?_ | refine blk_alloc ?_ _)); refine blk_far ?_ NB250_266.out _; (with_reducible repeat (first | refine blk_drewN ?_ _ | refine blk_drew ?_ | refine blk_alloc ?_ _)); exact BK250.out⟩, ⟨by (with_reducible repeat (first | refine blk_drewN ?_ _ | refine blk_drew ?_ | refine blk_alloc ?_ _)); refine blk_far ?_ NB251_266.out _; (with_reducible repeat (first | refine blk_drewN ?_ _ | refine blk_drew ?_ | refine blk_alloc ?_ _)); refine blk_far ?_ NB251_266.out _; (with_reducible repeat (first | refine blk_drewN ?_ _ | refine blk_drew ?_ | refine blk_alloc ?_ _)); refine blk_far ?_ NB251_266.out _; (with_reducible repeat (first | refine blk_drewN ?_ _ | refine blk_drew ?_ | refine blk_alloc ?_ _)); refine blk_far ?_ NB251_266.out _; (with_reducible repeat (first | refine blk_drewN ?_ _ | refine blk_drew ?_ | refine blk_alloc ?_ _)); exact BK251.out⟩, ⟨by (with_reducible repeat (first | refine blk_drewN ?_ _ | refine blk_drew ?_ | refine blk_alloc ?_ _)); refine blk_far ?_ NB259_266.out _; (with_reducible repeat (first | refine blk_drewN ?_ _ | refine blk_drew ?_ | refine blk_alloc ?_ _)); refine blk_far ?_ NB259_266.out _; (with_reducible repeat (first | refine blk_drewN ?_ _ | refine blk_drew ?_ | refine blk_alloc ?_ _)); refine blk_far ?_ NB259_266.out _; (with_reducible repeat (first | refine blk_drewN ?_ _ | refine blk_drew ?_ | refine blk_alloc ?_ _)); refine blk_far ?_ NB259_266.out _; (with_reducible repeat (first | refine blk_drewN ?_ _ | refine blk_drew ?_ | refine blk_alloc ?_ _)); exact BK259.out⟩, ⟨by (with_reducible repeat (first | refine blk_drewN ?_ _ | refine blk_drew ?_ | refine blk_alloc ?_ _)); refine blk_put (cs := #[.int .i64 t260, .int .i64 t261, .int .i64 t262, .string (⟨#[]⟩ : ByteArray)]) ?_ 3 _ rfl; (with_reducible repeat (first | refine blk_drewN ?_ _ | refine blk_drew ?_ | refine blk_alloc ?_ _)); refine blk_put (cs := #[.int .i64 t260, .int .i64 t261, .int .i64 0, .string (⟨#[]⟩ : ByteArray)]) ?_ 2 _ rfl; (with_reducible repeat (first | refine blk_drewN ?_ _ | refine blk_drew ?_ | refine blk_alloc ?_ _)); refine blk_put (cs := #[.int .i64 t260, .int .i64 0, .int .i64 0, .string (⟨#[]⟩ : ByteArray)]) ?_ 1 _ rfl; (with_reducible repeat (first | refine blk_drewN ?_ _ | refine blk_drew ?_ | refine blk_alloc ?_ _)); refine blk_put (cs := #[.int .i64 0, .int .i64 0, .int .i64 0, .string (⟨#[]⟩ : ByteArray)]) ?_ 0 _ rfl; (with_reducible repeat (first | refine blk_drewN ?_ _ | refine blk_drew ?_ | refine blk_alloc ?_ _)); exact BK266.out⟩, ⟨by repeat (first | (with_reducible first | exact HB.out | apply below_alloc | apply pw_below_drewN | apply below_drew1 | refine below_set ?_ GE242.out | refine below_set ?_ GE250.out | refine below_set ?_ GE251.out | refine below_set ?_ GE259.out | refine below_set ?_ GE266.out) | exact HB.out)⟩⟩
                  · rw [if_neg c55] at H
                    have c55b0 : (t248 == (t243.size : Int)) = false := beq_eq_false_iff_ne.mpr c55
                    have c55b1 : (t248 != (t243.size : Int)) = true := bne_iff_ne.mpr c55
                    have H' := Aside0.mk H
                    clear H
                    have hnb80 := NB250_242.out
                    have hnc80 := NB242_250.out
                    have hnb81 := NB250_251.out
                    have hnc81 := NB251_250.out
                    have hnb82 := NB250_259.out
                    have hnc82 := NB259_250.out
                    have hnb83 := NB250_266.out
                    have hnc83 := NB266_250.out
                    have hcz84_0 : w38.cell? ⟨gb250, 0, none⟩ = some (.int .i64 t244) := (blk_cell BK250.out 0).trans rfl
                    have hcz84_1 : w38.cell? ⟨gb250, 1, none⟩ = some (.int .i64 t245) := (blk_cell BK250.out 1).trans rfl
                    have hcz84_2 : w38.cell? ⟨gb250, 2, none⟩ = some (.int .i64 t246) := (blk_cell BK250.out 2).trans rfl
                    have hcz84_3 : w38.cell? ⟨gb250, 3, none⟩ = some (.string t247) := (blk_cell BK250.out 3).trans rfl
                    have hfz84_0 := blk_frozen BK250.out 0
                    have hfz84_1 := blk_frozen BK250.out 1
                    have hfz84_2 := blk_frozen BK250.out 2
                    have hfz84_3 := blk_frozen BK250.out 3
                    have hnb85 := NB242_251.out
                    have hnc85 := NB251_242.out
                    have hnb86 := NB242_259.out
                    have hnc86 := NB259_242.out
                    have hnb87 := NB242_266.out
                    have hnc87 := NB266_242.out
                    have hcz88_0 : w38.cell? ⟨gb242, 0, none⟩ = some (.int .i64 5) := (blk_cell BK242.out 0).trans rfl
                    have hcz88_1 : w38.cell? ⟨gb242, 1, none⟩ = some (.int .i64 0) := (blk_cell BK242.out 1).trans rfl
                    have hcz88_2 : w38.cell? ⟨gb242, 2, none⟩ = some (.int .i64 0) := (blk_cell BK242.out 2).trans rfl
                    have hcz88_3 : w38.cell? ⟨gb242, 3, none⟩ = some (.string (strOfNums l0)) := (blk_cell BK242.out 3).trans rfl
                    have hfz88_0 := blk_frozen BK242.out 0
                    have hfz88_1 := blk_frozen BK242.out 1
                    have hfz88_2 := blk_frozen BK242.out 2
                    have hfz88_3 := blk_frozen BK242.out 3
                    go_wp2
                    repeat (go_quiet (fail); try go_wp2)
                    go_meet
                    case rel => exact ⟨_, (true), (by first | rfl | (simp; done) | (simp [*]; done)), H', ⟨by have := HK1.out; first | omega | exact Nat.le_refl _⟩, ⟨by (with_reducible repeat (first | refine blk_drewN ?_ _ | refine blk_drew ?_ | refine blk_alloc ?_ _)); refine blk_far ?_ NB242_266.out _; (with_reducible repeat (first | refine blk_drewN ?_ _ | refine blk_drew ?_ | refine blk_alloc ?_ _)); refine blk_far ?_ NB242_266.out _; (with_reducible repeat (first | refine blk_drewN ?_ _ | refine blk_drew ?_ | refine blk_alloc ?_ _)); refine blk_far ?_ NB242_266.out _; (with_reducible repeat (first | refine blk_drewN ?_ _ | refine blk_drew ?_ | refine blk_alloc ?_ _)); refine blk_far ?_ NB242_266.out _; (with_reducible repeat (first | refine blk_drewN ?_ _ | refine blk_drew ?_ | refine blk_alloc ?_ _)); exact BK242.out⟩, ⟨by (with_reducible repeat (first | refine blk_drewN ?_ _ | refine blk_drew ?_ | refine blk_alloc ?_ _)); refine blk_far ?_ NB250_266.out _; (with_reducible repeat (first | refine blk_drewN ?_ _ | refine blk_drew ?_ | refine blk_alloc ?_ _)); refine blk_far ?_ NB250_266.out _; (with_reducible repeat (first | refine blk_drewN ?_ _ | refine blk_drew ?_ | refine blk_alloc ?_ _)); refine blk_far ?_ NB250_266.out _; (with_reducible repeat (first | refine blk_drewN ?_ _ | refine blk_drew ?_ | refine blk_alloc ?_ _)); refine blk_far ?_ NB250_266.out _; (with_reducible repeat (first | refine blk_drewN ?_ _ | refine blk_drew ?_ | refine blk_alloc ?_ _)); exact BK250.out⟩, ⟨by (with_reducible repeat (first | refine blk_drewN ?_ _ | refine blk_drew ?_ | refine blk_alloc ?_ _)); refine blk_far ?_ NB251_266.out _; (with_reducible repeat (first | refine blk_drewN ?_ _ | refine blk_drew ?_ | refine blk_alloc ?_ _)); refine blk_far ?_ NB251_266.out _; (with_reducible repeat (first | refine blk_drewN ?_ _ | refine blk_drew ?_ | refine blk_alloc ?_ _)); refine blk_far ?_ NB251_266.out _; (with_reducible repeat (first | refine blk_drewN ?_ _ | refine blk_drew ?_ | refine blk_alloc ?_ _)); refine blk_far ?_ NB251_266.out _; (with_reducible repeat (first | refine blk_drewN ?_ _ | refine blk_drew ?_ | refine blk_alloc ?_ _)); exact BK251.out⟩, ⟨by (with_reducible repeat (first | refine blk_drewN ?_ _ | refine blk_drew ?_ | refine blk_alloc ?_ _)); refine blk_far ?_ NB259_266.out _; (with_reducible repeat (first | refine blk_drewN ?_ _ | refine blk_drew ?_ | refine blk_alloc ?_ _)); refine blk_far ?_ NB259_266.out _; (with_reducible repeat (first | refine blk_drewN ?_ _ | refine blk_drew ?_ | refine blk_alloc ?_ _)); refine blk_far ?_ NB259_266.out _; (with_reducible repeat (first | refine blk_drewN ?_ _ | refine blk_drew ?_ | refine blk_alloc ?_ _)); refine blk_far ?_ NB259_266.out _; (with_reducible repeat (first | refine blk_drewN ?_ _ | refine blk_drew ?_ | refine blk_alloc ?_ _)); exact BK259.out⟩, ⟨by (with_reducible repeat (first | refine blk_drewN ?_ _ | refine blk_drew ?_ | refine blk_alloc ?_ _)); refine blk_put (cs := #[.int .i64 t260, .int .i64 t261, .int .i64 t262, .string (⟨#[]⟩ : ByteArray)]) ?_ 3 _ rfl; (with_reducible repeat (first | refine blk_drewN ?_ _ | refine blk_drew ?_ | refine blk_alloc ?_ _)); refine blk_put (cs := #[.int .i64 t260, .int .i64 t261, .int .i64 0, .string (⟨#[]⟩ : ByteArray)]) ?_ 2 _ rfl; (with_reducible repeat (first | refine blk_drewN ?_ _ | refine blk_drew ?_ | refine blk_alloc ?_ _)); refine blk_put (cs := #[.int .i64 t260, .int .i64 0, .int .i64 0, .string (⟨#[]⟩ : ByteArray)]) ?_ 1 _ rfl; (with_reducible repeat (first | refine blk_drewN ?_ _ | refine blk_drew ?_ | refine blk_alloc ?_ _)); refine blk_put (cs := #[.int .i64 0, .int .i64 0, .int .i64 0, .string (⟨#[]⟩ : ByteArray)]) ?_ 0 _ rfl; (with_reducible repeat (first | refine blk_drewN ?_ _ | refine blk_drew ?_ | refine blk_alloc ?_ _)); exact BK266.out⟩, ⟨by repeat (first | (with_reducible first | exact HB.out | apply below_alloc | apply pw_below_drewN | apply below_drew1 | refine below_set ?_ GE242.out | refine below_set ?_ GE250.out | refine below_set ?_ GE251.out | refine below_set ?_ GE259.out | refine below_set ?_ GE266.out) | exact HB.out)⟩⟩
              · rw [if_neg c44] at H
                have c44b0 : (t249 == 0) = false := beq_eq_false_iff_ne.mpr c44
                have c44b1 : (t249 != 0) = true := bne_iff_ne.mpr c44
                (first | rw [c44b0] | (simp only [i64_w, i32_w]; rw [c44b0]) | skip)
                have H' := Aside0.mk H
                clear H
                go_wp2
                repeat (go_quiet (fail); try go_wp2)
                go_meet
                case rel => exact ⟨_, (true), (by first | rfl | (simp; done) | (simp [*]; done)), H', ⟨by have := HK1.out; first | omega | exact Nat.le_refl _⟩, ⟨by (with_reducible repeat (first | refine blk_drewN ?_ _ | refine blk_drew ?_ | refine blk_alloc ?_ _)); refine blk_far ?_ NB242_266.out _; (with_reducible repeat (first | refine blk_drewN ?_ _ | refine blk_drew ?_ | refine blk_alloc ?_ _)); refine blk_far ?_ NB242_266.out _; (with_reducible repeat (first | refine blk_drewN ?_ _ | refine blk_drew ?_ | refine blk_alloc ?_ _)); refine blk_far ?_ NB242_266.out _; (with_reducible repeat (first | refine blk_drewN ?_ _ | refine blk_drew ?_ | refine blk_alloc ?_ _)); refine blk_far ?_ NB242_266.out _; (with_reducible repeat (first | refine blk_drewN ?_ _ | refine blk_drew ?_ | refine blk_alloc ?_ _)); exact BK242.out⟩, ⟨by (with_reducible repeat (first | refine blk_drewN ?_ _ | refine blk_drew ?_ | refine blk_alloc ?_ _)); refine blk_far ?_ NB250_266.out _; (with_reducible repeat (first | refine blk_drewN ?_ _ | refine blk_drew ?_ | refine blk_alloc ?_ _)); refine blk_far ?_ NB250_266.out _; (with_reducible repeat (first | refine blk_drewN ?_ _ | refine blk_drew ?_ | refine blk_alloc ?_ _)); refine blk_far ?_ NB250_266.out _; (with_reducible repeat (first | refine blk_drewN ?_ _ | refine blk_drew ?_ | refine blk_alloc ?_ _)); refine blk_far ?_ NB250_266.out _; (with_reducible repeat (first | refine blk_drewN ?_ _ | refine blk_drew ?_ | refine blk_alloc ?_ _)); exact BK250.out⟩, ⟨by (with_reducible repeat (first | refine blk_drewN ?_ _ | refine blk_drew ?_ | refine blk_alloc ?_ _)); refine blk_far ?_ NB251_266.out _; (with_reducible repeat (first | refine blk_drewN ?_ _ | refine blk_drew ?_ | refine blk_alloc ?_ _)); refine blk_far ?_ NB251_266.out _; (with_reducible repeat (first | refine blk_drewN ?_ _ | refine blk_drew ?_ | refine blk_alloc ?_ _)); refine blk_far ?_ NB251_266.out _; (with_reducible repeat (first | refine blk_drewN ?_ _ | refine blk_drew ?_ | refine blk_alloc ?_ _)); refine blk_far ?_ NB251_266.out _; (with_reducible repeat (first | refine blk_drewN ?_ _ | refine blk_drew ?_ | refine blk_alloc ?_ _)); exact BK251.out⟩, ⟨by (with_reducible repeat (first | refine blk_drewN ?_ _ | refine blk_drew ?_ | refine blk_alloc ?_ _)); refine blk_far ?_ NB259_266.out _; (with_reducible repeat (first | refine blk_drewN ?_ _ | refine blk_drew ?_ | refine blk_alloc ?_ _)); refine blk_far ?_ NB259_266.out _; (with_reducible repeat (first | refine blk_drewN ?_ _ | refine blk_drew ?_ | refine blk_alloc ?_ _)); refine blk_far ?_ NB259_266.out _; (with_reducible repeat (first | refine blk_drewN ?_ _ | refine blk_drew ?_ | refine blk_alloc ?_ _)); refine blk_far ?_ NB259_266.out _; (with_reducible repeat (first | refine blk_drewN ?_ _ | refine blk_drew ?_ | refine blk_alloc ?_ _)); exact BK259.out⟩, ⟨by (with_reducible repeat (first | refine blk_drewN ?_ _ | refine blk_drew ?_ | refine blk_alloc ?_ _)); refine blk_put (cs := #[.int .i64 t260, .int .i64 t261, .int .i64 t262, .string (⟨#[]⟩ : ByteArray)]) ?_ 3 _ rfl; (with_reducible repeat (first | refine blk_drewN ?_ _ | refine blk_drew ?_ | refine blk_alloc ?_ _)); refine blk_put (cs := #[.int .i64 t260, .int .i64 t261, .int .i64 0, .string (⟨#[]⟩ : ByteArray)]) ?_ 2 _ rfl; (with_reducible repeat (first | refine blk_drewN ?_ _ | refine blk_drew ?_ | refine blk_alloc ?_ _)); refine blk_put (cs := #[.int .i64 t260, .int .i64 0, .int .i64 0, .string (⟨#[]⟩ : ByteArray)]) ?_ 1 _ rfl; (with_reducible repeat (first | refine blk_drewN ?_ _ | refine blk_drew ?_ | refine blk_alloc ?_ _)); refine blk_put (cs := #[.int .i64 0, .int .i64 0, .int .i64 0, .string (⟨#[]⟩ : ByteArray)]) ?_ 0 _ rfl; (with_reducible repeat (first | refine blk_drewN ?_ _ | refine blk_drew ?_ | refine blk_alloc ?_ _)); exact BK266.out⟩, ⟨by repeat (first | (with_reducible first | exact HB.out | apply below_alloc | apply pw_below_drewN | apply below_drew1 | refine below_set ?_ GE242.out | refine below_set ?_ GE250.out | refine below_set ?_ GE251.out | refine below_set ?_ GE259.out | refine below_set ?_ GE266.out) | exact HB.out)⟩⟩
            case rest =>
              clear HC36
              try clear c1
              try clear hcv1
              try clear c2
              try clear p2
              try clear c3
              try clear c4
              try clear c4b0
              try clear c4b1
              try clear c5
              try clear c6
              try clear p6
              try clear c7
              try clear c8
              try clear hcv11
              try clear c17
              try clear hcv19
              try clear c21
              try clear c22
              try clear c27
              try clear c28
              try clear c29
              try clear c31
              try clear c31b0
              try clear c32
              try clear c32b0
              try clear c32b1
              try clear c32b2
              try clear c33
              try clear c33b0
              try clear c33b1
              try clear c33b2
              try clear c34
              try clear c34b0
              try clear c34b1
              try clear c34b2
              try clear c39
              try clear c40
              try clear c41
              try clear c42
              try clear c44
              try clear c44b0
              try clear c44b1
              try clear c45
              try clear c45b0
              try clear c45b1
              try clear c45b2
              try clear c46
              try clear c47
              try clear c48
              try clear c49
              try clear c51
              try clear c52
              try clear c53
              try clear c55
              try clear c55b0
              try clear c55b1
              try clear c56
              try clear c56b0
              try clear c56b1
              try clear c57
              try clear c58
              try clear c59
              try clear c60
              try clear c62
              try clear c63
              try clear c64
              try clear p64
              try clear c66
              try clear c67
              try clear c69
              try clear c71
              try clear c72
              try clear c73
              try clear c74
              try clear c76
              try clear c77
              try clear c78
              try clear c80
              try clear c81
              try clear c82
              try clear c83
              try clear c85
              try clear c86
              try clear c87
              try clear hcz13_0
              try clear hcz13_1
              try clear hcz13_2
              try clear hcz13_3
              try clear hcz18_0
              try clear hcz18_1
              try clear hcz18_2
              try clear hcz18_3
              try clear hcz23_0
              try clear hcz23_1
              try clear hcz23_2
              try clear hcz23_3
              try clear hcz30_0
              try clear hcz30_1
              try clear hcz30_2
              try clear hcz30_3
              try clear hcz43_0
              try clear hcz43_1
              try clear hcz43_2
              try clear hcz43_3
              try clear hcz50_0
              try clear hcz50_1
              try clear hcz50_2
              try clear hcz50_3
              try clear hcz54_0
              try clear hcz54_1
              try clear hcz54_2
              try clear hcz54_3
              try clear hcz61_0
              try clear hcz61_1
              try clear hcz61_2
              try clear hcz61_3
              try clear hcz65_0
              try clear hcz65_1
              try clear hcz65_2
              try clear hcz65_3
              try clear hcz68_0
              try clear hcz68_1
              try clear hcz68_2
              try clear hcz68_3
              try clear hcz70_0
              try clear hcz70_1
              try clear hcz70_2
              try clear hcz70_3
              try clear hcz75_0
              try clear hcz75_1
              try clear hcz75_2
              try clear hcz75_3
              try clear hcz79_0
              try clear hcz79_1
              try clear hcz79_2
              try clear hcz79_3
              try clear hcz84_0
              try clear hcz84_1
              try clear hcz84_2
              try clear hcz84_3
              try clear hcz88_0
              try clear hcz88_1
              try clear hcz88_2
              try clear hcz88_3
              try clear hfz13_0
              try clear hfz13_1
              try clear hfz13_2
              try clear hfz13_3
              try clear hfz18_0
              try clear hfz18_1
              try clear hfz18_2
              try clear hfz18_3
              try clear hfz23_0
              try clear hfz23_1
              try clear hfz23_2
              try clear hfz23_3
              try clear hfz30_0
              try clear hfz30_1
              try clear hfz30_2
              try clear hfz30_3
              try clear hfz43_0
              try clear hfz43_1
              try clear hfz43_2
              try clear hfz43_3
              try clear hfz50_0
              try clear hfz50_1
              try clear hfz50_2
              try clear hfz50_3
              try clear hfz54_0
              try clear hfz54_1
              try clear hfz54_2
              try clear hfz54_3
              try clear hfz61_0
              try clear hfz61_1
              try clear hfz61_2
              try clear hfz61_3
              try clear hfz65_0
              try clear hfz65_1
              try clear hfz65_2
              try clear hfz65_3
              try clear hfz68_0
              try clear hfz68_1
              try clear hfz68_2
              try clear hfz68_3
              try clear hfz70_0
              try clear hfz70_1
              try clear hfz70_2
              try clear hfz70_3
              try clear hfz75_0
              try clear hfz75_1
              try clear hfz75_2
              try clear hfz75_3
              try clear hfz79_0
              try clear hfz79_1
              try clear hfz79_2
              try clear hfz79_3
              try clear hfz84_0
              try clear hfz84_1
              try clear hfz84_2
              try clear hfz84_3
              try clear hfz88_0
              try clear hfz88_1
              try clear hfz88_2
              try clear hfz88_3
              try clear p2
              obtain ⟨kq, x88_35, rfl, HA, HJ35, BK242, BK250, BK251, BK259, BK266, HB⟩ := hcut
              cases kq with
              | zero => exact absurd HA.out (by simp [hornbooklaw04_TokStrings.j1])
              | succ kj35 =>
                have H := HA.out
                clear HA
                simp only [hornbooklaw04_TokStrings.j1] at H
                by_cases c89 : x88_35 = true
                · subst c89
                  have H1 : (some false) = some r := by rw [if_pos rfl] at H; exact H
                  clear H
                  have H := H1
                  clear H1
                  obtain rfl := Option.some.inj H
                  go_wp2
                  repeat (go_quiet (fail); try go_wp2)
                  go_ret
                  exact ⟨by first | rfl | (simp [errW_none, errW_some] <;> rfl) | (simp [*, errW_none, errW_some] <;> rfl), by repeat (first | (with_reducible first | exact HB.out | apply below_alloc | apply pw_below_drewN | apply below_drew1 | refine below_set ?_ GE242.out | refine below_set ?_ GE250.out | refine below_set ?_ GE251.out | refine below_set ?_ GE259.out | refine below_set ?_ GE266.out) | exact HB.out)⟩
                · replace c89 := Bool.eq_false_iff.mpr c89
                  subst c89
                  have H1 : (if (Go.bits .and .i64 a1 63) = 0 then (if t241 = true then (if t265 = 0 then (some (t260 == 0)) else (some false)) else (some false)) else (if (Go.bits .and .i64 a1 63) > 32 then (if t241 = true then (some (t265 == 5)) else (some false)) else (if t241 = true then (if t265 = 0 then (if t260 = 5 then (if 1 ≤ (x16_1.size : Int) then (if 1 ≤ (x17_1.size : Int) then (if (x16_1.extract 1 x16_1.size).size + (x17_1.extract 1 x17_1.size).size ≤ 9223372036854775807 then (some (t263.toList == ((x16_1.extract 1 x16_1.size) ++ (x17_1.extract 1 x17_1.size)).toList)) else (none)) else (none)) else (none)) else (some false)) else (some false)) else (some false)))) = some r := by rw [if_neg (show ¬ (false = true) by decide)] at H; exact H
                  clear H
                  have H := H1
                  clear H1
                  by_cases c90 : (Go.bits .and .i64 a1 63) = 0
                  · rw [if_pos c90] at H
                    have c90b0 : ((Go.bits .and .i64 a1 63) == 0) = true := beq_iff_eq.mpr c90
                    have c90b1 : ((Go.bits .and .i64 a1 63) != 0) = false := bne_eq_false_iff_eq.mpr c90
                    clear c90
                    by_cases c91 : t241 = true
                    · subst c91
                      have H1 : (if t265 = 0 then (some (t260 == 0)) else (some false)) = some r := by rw [if_pos rfl] at H; exact H
                      clear H
                      have H := H1
                      clear H1
                      by_cases c92 : t265 = 0
                      · rw [if_pos c92] at H
                        have c92b0 : (t265 == 0) = true := beq_iff_eq.mpr c92
                        have c92b1 : (t265 != 0) = false := bne_eq_false_iff_eq.mpr c92
                        clear c92
                        obtain rfl := Option.some.inj H
                        have hnb93 := NB266_242.out
                        have hnc93 := NB242_266.out
                        have hnb94 := NB266_250.out
                        have hnc94 := NB250_266.out
                        have hnb95 := NB266_251.out
                        have hnc95 := NB251_266.out
                        have hnb96 := NB266_259.out
                        have hnc96 := NB259_266.out
                        have hcz97_0 : wc.cell? ⟨gb266, 0, none⟩ = some (.int .i64 t260) := (blk_cell BK266.out 0).trans rfl
                        have hcz97_1 : wc.cell? ⟨gb266, 1, none⟩ = some (.int .i64 t261) := (blk_cell BK266.out 1).trans rfl
                        have hcz97_2 : wc.cell? ⟨gb266, 2, none⟩ = some (.int .i64 t262) := (blk_cell BK266.out 2).trans rfl
                        have hcz97_3 : wc.cell? ⟨gb266, 3, none⟩ = some (.string t263) := (blk_cell BK266.out 3).trans rfl
                        have hfz97_0 := blk_frozen BK266.out 0
                        have hfz97_1 := blk_frozen BK266.out 1
                        have hfz97_2 := blk_frozen BK266.out 2
                        have hfz97_3 := blk_frozen BK266.out 3
                        go_wp2
                        repeat (go_quiet (fail); try go_wp2)
                        go_ret
                        exact ⟨by first | rfl | (simp [errW_none, errW_some] <;> rfl) | (simp [*, errW_none, errW_some] <;> rfl), by repeat (first | (with_reducible first | exact HB.out | apply below_alloc | apply pw_below_drewN | apply below_drew1 | refine below_set ?_ GE242.out | refine below_set ?_ GE250.out | refine below_set ?_ GE251.out | refine below_set ?_ GE259.out | refine below_set ?_ GE266.out) | exact HB.out)⟩
                      · rw [if_neg c92] at H
                        have c92b0 : (t265 == 0) = false := beq_eq_false_iff_ne.mpr c92
                        have c92b1 : (t265 != 0) = true := bne_iff_ne.mpr c92
                        obtain rfl := Option.some.inj H
                        go_wp2
                        repeat (go_quiet (fail); try go_wp2)
                        go_ret
                        exact ⟨by first | rfl | (simp [errW_none, errW_some] <;> rfl) | (simp [*, errW_none, errW_some] <;> rfl), by repeat (first | (with_reducible first | exact HB.out | apply below_alloc | apply pw_below_drewN | apply below_drew1 | refine below_set ?_ GE242.out | refine below_set ?_ GE250.out | refine below_set ?_ GE251.out | refine below_set ?_ GE259.out | refine below_set ?_ GE266.out) | exact HB.out)⟩
                    · replace c91 := Bool.eq_false_iff.mpr c91
                      subst c91
                      have H1 : (some false) = some r := by rw [if_neg (show ¬ (false = true) by decide)] at H; exact H
                      clear H
                      have H := H1
                      clear H1
                      obtain rfl := Option.some.inj H
                      go_wp2
                      repeat (go_quiet (fail); try go_wp2)
                      go_ret
                      exact ⟨by first | rfl | (simp [errW_none, errW_some] <;> rfl) | (simp [*, errW_none, errW_some] <;> rfl), by repeat (first | (with_reducible first | exact HB.out | apply below_alloc | apply pw_below_drewN | apply below_drew1 | refine below_set ?_ GE242.out | refine below_set ?_ GE250.out | refine below_set ?_ GE251.out | refine below_set ?_ GE259.out | refine below_set ?_ GE266.out) | exact HB.out)⟩
                  · rw [if_neg c90] at H
                    have c90b0 : ((Go.bits .and .i64 a1 63) == 0) = false := beq_eq_false_iff_ne.mpr c90
                    have c90b1 : ((Go.bits .and .i64 a1 63) != 0) = true := bne_iff_ne.mpr c90
                    by_cases c98 : (Go.bits .and .i64 a1 63) > 32
                    · rw [if_pos c98] at H
                      have c98b0 : decide (32 < (Go.bits .and .i64 a1 63)) = true := decide_eq_true c98
                      clear c98
                      by_cases c99 : t241 = true
                      · subst c99
                        have H1 : (some (t265 == 5)) = some r := by rw [if_pos rfl] at H; exact H
                        clear H
                        have H := H1
                        clear H1
                        obtain rfl := Option.some.inj H
                        go_wp2
                        repeat (go_quiet (fail); try go_wp2)
                        go_ret
                        exact ⟨by first | rfl | (simp [errW_none, errW_some] <;> rfl) | (simp [*, errW_none, errW_some] <;> rfl), by repeat (first | (with_reducible first | exact HB.out | apply below_alloc | apply pw_below_drewN | apply below_drew1 | refine below_set ?_ GE242.out | refine below_set ?_ GE250.out | refine below_set ?_ GE251.out | refine below_set ?_ GE259.out | refine below_set ?_ GE266.out) | exact HB.out)⟩
                      · replace c99 := Bool.eq_false_iff.mpr c99
                        subst c99
                        have H1 : (some false) = some r := by rw [if_neg (show ¬ (false = true) by decide)] at H; exact H
                        clear H
                        have H := H1
                        clear H1
                        obtain rfl := Option.some.inj H
                        go_wp2
                        repeat (go_quiet (fail); try go_wp2)
                        go_ret
                        exact ⟨by first | rfl | (simp [errW_none, errW_some] <;> rfl) | (simp [*, errW_none, errW_some] <;> rfl), by repeat (first | (with_reducible first | exact HB.out | apply below_alloc | apply pw_below_drewN | apply below_drew1 | refine below_set ?_ GE242.out | refine below_set ?_ GE250.out | refine below_set ?_ GE251.out | refine below_set ?_ GE259.out | refine below_set ?_ GE266.out) | exact HB.out)⟩
                    · rw [if_neg c98] at H
                      have c98b0 : decide (32 < (Go.bits .and .i64 a1 63)) = false := decide_eq_false c98
                      clear c98
                      by_cases c100 : t241 = true
                      · subst c100
                        have H1 : (if t265 = 0 then (if t260 = 5 then (if 1 ≤ (x16_1.size : Int) then (if 1 ≤ (x17_1.size : Int) then (if (x16_1.extract 1 x16_1.size).size + (x17_1.extract 1 x17_1.size).size ≤ 9223372036854775807 then (some (t263.toList == ((x16_1.extract 1 x16_1.size) ++ (x17_1.extract 1 x17_1.size)).toList)) else (none)) else (none)) else (none)) else (some false)) else (some false)) = some r := by rw [if_pos rfl] at H; exact H
                        clear H
                        have H := H1
                        clear H1
                        by_cases c101 : t265 = 0
                        · rw [if_pos c101] at H
                          have c101b0 : (t265 == 0) = true := beq_iff_eq.mpr c101
                          have c101b1 : (t265 != 0) = false := bne_eq_false_iff_eq.mpr c101
                          clear c101
                          by_cases c102 : t260 = 5
                          · rw [if_pos c102] at H
                            have c102b0 : (t260 == 5) = true := beq_iff_eq.mpr c102
                            have c102b1 : (t260 != 5) = false := bne_eq_false_iff_eq.mpr c102
                            clear c102
                            by_cases c103 : 1 ≤ (x16_1.size : Int)
                            · rw [if_pos c103] at H
                              have c103b0 := eq_true c103
                              have c103b1 : decide (1 ≤ (x16_1.size : Int)) = true := decide_eq_true c103
                              clear c103
                              by_cases c104 : 1 ≤ (x17_1.size : Int)
                              · rw [if_pos c104] at H
                                have c104b0 := eq_true c104
                                have c104b1 : decide (1 ≤ (x17_1.size : Int)) = true := decide_eq_true c104
                                clear c104
                                by_cases c105 : (x16_1.extract 1 x16_1.size).size + (x17_1.extract 1 x17_1.size).size ≤ 9223372036854775807
                                · rw [if_pos c105] at H
                                  have c105b0 := eq_true c105
                                  have c105b1 : decide ((x16_1.extract 1 x16_1.size).size + (x17_1.extract 1 x17_1.size).size ≤ 9223372036854775807) = true := decide_eq_true c105
                                  try have c105b2 : (9223372036854775807 < (x16_1.extract 1 x16_1.size).size + (x17_1.extract 1 x17_1.size).size) = False := eq_false (Nat.not_lt.2 c105)
                                  obtain rfl := Option.some.inj H
                                  have hnb106 := NB266_242.out
                                  have hnc106 := NB242_266.out
                                  have hnb107 := NB266_250.out
                                  have hnc107 := NB250_266.out
                                  have hnb108 := NB266_251.out
                                  have hnc108 := NB251_266.out
                                  have hnb109 := NB266_259.out
                                  have hnc109 := NB259_266.out
                                  have hcz110_0 : wc.cell? ⟨gb266, 0, none⟩ = some (.int .i64 t260) := (blk_cell BK266.out 0).trans rfl
                                  have hcz110_1 : wc.cell? ⟨gb266, 1, none⟩ = some (.int .i64 t261) := (blk_cell BK266.out 1).trans rfl
                                  have hcz110_2 : wc.cell? ⟨gb266, 2, none⟩ = some (.int .i64 t262) := (blk_cell BK266.out 2).trans rfl
                                  have hcz110_3 : wc.cell? ⟨gb266, 3, none⟩ = some (.string t263) := (blk_cell BK266.out 3).trans rfl
                                  have hfz110_0 := blk_frozen BK266.out 0
                                  have hfz110_1 := blk_frozen BK266.out 1
                                  have hfz110_2 := blk_frozen BK266.out 2
                                  have hfz110_3 := blk_frozen BK266.out 3
                                  go_wp2
                                  repeat (go_quiet (fail); try go_wp2)
                                  go_ret
                                  exact ⟨by first | rfl | (simp [errW_none, errW_some] <;> rfl) | (simp [*, errW_none, errW_some] <;> rfl), by repeat (first | (with_reducible first | exact HB.out | apply below_alloc | apply pw_below_drewN | apply below_drew1 | refine below_set ?_ GE242.out | refine below_set ?_ GE250.out | refine below_set ?_ GE251.out | refine below_set ?_ GE259.out | refine below_set ?_ GE266.out) | exact HB.out)⟩
                                · rw [if_neg c105] at H
                                  exact absurd H (by simp)
                              · rw [if_neg c104] at H
                                exact absurd H (by simp)
                            · rw [if_neg c103] at H
                              exact absurd H (by simp)
                          · rw [if_neg c102] at H
                            have c102b0 : (t260 == 5) = false := beq_eq_false_iff_ne.mpr c102
                            have c102b1 : (t260 != 5) = true := bne_iff_ne.mpr c102
                            obtain rfl := Option.some.inj H
                            have hnb111 := NB266_242.out
                            have hnc111 := NB242_266.out
                            have hnb112 := NB266_250.out
                            have hnc112 := NB250_266.out
                            have hnb113 := NB266_251.out
                            have hnc113 := NB251_266.out
                            have hnb114 := NB266_259.out
                            have hnc114 := NB259_266.out
                            have hcz115_0 : wc.cell? ⟨gb266, 0, none⟩ = some (.int .i64 t260) := (blk_cell BK266.out 0).trans rfl
                            have hcz115_1 : wc.cell? ⟨gb266, 1, none⟩ = some (.int .i64 t261) := (blk_cell BK266.out 1).trans rfl
                            have hcz115_2 : wc.cell? ⟨gb266, 2, none⟩ = some (.int .i64 t262) := (blk_cell BK266.out 2).trans rfl
                            have hcz115_3 : wc.cell? ⟨gb266, 3, none⟩ = some (.string t263) := (blk_cell BK266.out 3).trans rfl
                            have hfz115_0 := blk_frozen BK266.out 0
                            have hfz115_1 := blk_frozen BK266.out 1
                            have hfz115_2 := blk_frozen BK266.out 2
                            have hfz115_3 := blk_frozen BK266.out 3
                            go_wp2
                            repeat (go_quiet (fail); try go_wp2)
                            go_ret
                            exact ⟨by first | rfl | (simp [errW_none, errW_some] <;> rfl) | (simp [*, errW_none, errW_some] <;> rfl), by repeat (first | (with_reducible first | exact HB.out | apply below_alloc | apply pw_below_drewN | apply below_drew1 | refine below_set ?_ GE242.out | refine below_set ?_ GE250.out | refine below_set ?_ GE251.out | refine below_set ?_ GE259.out | refine below_set ?_ GE266.out) | exact HB.out)⟩
                        · rw [if_neg c101] at H
                          have c101b0 : (t265 == 0) = false := beq_eq_false_iff_ne.mpr c101
                          have c101b1 : (t265 != 0) = true := bne_iff_ne.mpr c101
                          obtain rfl := Option.some.inj H
                          go_wp2
                          repeat (go_quiet (fail); try go_wp2)
                          go_ret
                          exact ⟨by first | rfl | (simp [errW_none, errW_some] <;> rfl) | (simp [*, errW_none, errW_some] <;> rfl), by repeat (first | (with_reducible first | exact HB.out | apply below_alloc | apply pw_below_drewN | apply below_drew1 | refine below_set ?_ GE242.out | refine below_set ?_ GE250.out | refine below_set ?_ GE251.out | refine below_set ?_ GE259.out | refine below_set ?_ GE266.out) | exact HB.out)⟩
                      · replace c100 := Bool.eq_false_iff.mpr c100
                        subst c100
                        have H1 : (some false) = some r := by rw [if_neg (show ¬ (false = true) by decide)] at H; exact H
                        clear H
                        have H := H1
                        clear H1
                        obtain rfl := Option.some.inj H
                        go_wp2
                        repeat (go_quiet (fail); try go_wp2)
                        go_ret
                        exact ⟨by first | rfl | (simp [errW_none, errW_some] <;> rfl) | (simp [*, errW_none, errW_some] <;> rfl), by repeat (first | (with_reducible first | exact HB.out | apply below_alloc | apply pw_below_drewN | apply below_drew1 | refine below_set ?_ GE242.out | refine below_set ?_ GE250.out | refine below_set ?_ GE251.out | refine below_set ?_ GE259.out | refine below_set ?_ GE266.out) | exact HB.out)⟩
          · rw [if_neg c34] at H
            exact absurd H (by simp)
/-- THE ONE PURE STATEMENT of hornbooklaw04_TokStrings: yours. -/
def hornbooklaw04_TokStrings.Pure : Prop := ∀ (l0 : List Int) (a1 : Int), l0.length ≤ maxLen → l0.length * 1 ≤ 140737488351232 → (∀ x ∈ l0, (Lit.int .u8 x).wf = true) → (Lit.int .i64 a1).wf = true → ∃ k, hornbooklaw04_TokStrings.f k l0 a1 = some true
theorem hornbooklaw04_TokStrings.walk (P : hornbooklaw04_TokStrings.Pure) (a0 : Option Addr) (len0 cap0 : Nat) (z0 : List Int) (a1 : Int) (w : World) (w0 : (a0 = none ∧ len0 = 0 ∧ cap0 = 0 ∧ z0 = []) ∨ ∃ x, a0 = some x ∧ len0 ≤ cap0 ∧ cap0 ≤ maxLen ∧ z0.length = cap0 ∧ (∀ i, i < z0.length → w.cell? (x.add i) = some (.int .u8 (z0.getD i 0))) ∧ ∀ n ∈ z0, (Lit.int .u8 n).wf = true) (y0 : len0 * 1 ≤ 140737488351232) (w1 : (Lit.int .i64 a1).wf = true)(hG : GW w) :
    Calls Tryz.prog 5 #[.slice a0 len0 cap0, .int .i64 a1] w fun e w' => e = .returned (.bool true) ∧ Below w.heap.size w w' := by
  obtain ⟨l0, rfl, hr0, hm0, hw0, hc0⟩ := ReadsInt.ofRowC w0
  obtain ⟨k, h⟩ := P l0 a1 hm0 y0 hw0 w1
  refine (hornbooklaw04_TokStrings.calls k _ _ l0 a1 true w hG (Kd.C_of_reads (d := (0 : Int)) (h1 := fun _ => rfl) hr0) hc0 h).mono ?_
  rintro e w' ⟨rfl, hd⟩
  exact ⟨rfl, hd⟩
end Go.Proofs.YtfdikkdbmlcjiaaGreatDoor.M
end
section
namespace Go.Proofs.YtfdikkdbmlcjiaaGreatDoor.M
open Go Go.RowKit
variable {H : Type} {enc : TypeId × Value → H}
theorem returns_both {a : Assume} {C : Checked} {os : Os} {f : FuncId} {fn : Func} {s : ChangeSpec} {conds : List PathCond} {apart fresh handsOn again : Bool} {X : World → Array Value → Prop}
    (hX : ∀ (w w' : World) (args : Array Value), w.heap = w'.heap → X w args → X w' args)
    (own : ownKnob C.prog.godebug = none) (started : os.Started) (noInit : C.prog.inits.idxOf? f = none) (hfn : C.prog.funcs[f]? = some fn)
    (witness : ∃ (w : World) (tape : Tape) (i : Input), w.os = os ∧ (w.forCall tape i).Shaped C.prog ∧ i.vars = [] ∧ Input.okWide C.prog (w.forCall tape i) .any w.heap.size f i ∧
      ((s.pre enc C.prog fn conds apart (w.forCall tape i).memory i.args ∧ X (w.forCall tape i).memory i.args) ∧ sizedMet enc C.prog fn (OpenSpec.ofChange s) apart (w.forCall tape i).memory i.args) ∧ a.holds C.prog (lone (Frame.enter C.prog f i.args .normal) [] (w.forCall tape i)))
    (contract : ∀ (W : World) (base : Nat) (args : Array Value) (ds gs : List (DataW H)) (before : List MemPlace),
      (∀ (j : Nat) t v, fn.params[j]? = some t → args[j]? = some v → Value.okWide C.prog W .any base t v) →
      DataW.Whole enc C.prog fn.params.toList s.vars apart W args.toList ds gs before →
      conds.all (PathCond.test C.prog ⟨fn.params.toList, ds, s.plain.varTypes C.prog, gs⟩) = true →
      (DataW.weightsEach C.prog (fn.params.toList ++ s.plain.varTypes C.prog) (ds ++ gs)).all (· ≤ reachBytes) = true → X W args → W.ShapedOpen C.prog →
      Calls C.prog f args W fun e W' => ∃ v, e = .returned v ∧ s.post enc C.prog fn apart fresh handsOn again W args v W') :
    ReturnsInHanded a C os f .any (fun w args => (s.pre enc C.prog fn conds apart w args ∧ X w args) ∧ sizedMet enc C.prog fn (OpenSpec.ofChange s) apart w args) (s.post enc C.prog fn apart fresh handsOn again) := by
  refine returnsInHanded_of_calls own started noInit witness ?_
  intro w tape i _ hsh _ hok hpre hholds
  obtain ⟨_, _, _, fn', hfn', _, _, _, _, hval⟩ := hok
  have e : fn' = fn := Option.some.inj (hfn'.symm.trans hfn)
  subst e
  obtain ⟨⟨⟨ds, gs, before, hw, hc⟩, hx⟩, hz⟩ := hpre
  have hw' := DataW.Whole.of_heap (w' := w.forCall tape i) (by rfl) hw
  refine (contract (w.forCall tape i) w.heap.size i.args ds gs before hval hw' hc (hz.weights hw) (hX _ _ _ (by rfl) hx) hsh).mono fun e W' ⟨v, he, hp⟩ => ?_
  subst he
  exact ChangeSpec.post_blind hp
theorem gw_star : "*" ++ "errors.errorString" = "*errors.errorString" := by decide
theorem gw_row (u : TypeId) (h : Tryz.prog.typeName? 3 u = some "*errors.errorString") : u = 146 :=
  typeName_ptr_named (nm := "errors.errorString") (by rw [gw_star]; kernel_rfl) (by kernel_rfl) (by decide) u (by rw [gw_star]; exact h)
/-- Out of a row's 'laid', from the two sentinels on, and the world's shape. -/
theorem GW.of_mets {r1 r2 : List (String × DataW Unit)} {t1 t2 : List UInt8} {W : World}
    (h1 : laidMet Tryz.prog (("strconv.ErrRange", .iface "*errors.errorString" (.ptr (.agg [.lit (.string t1)]))) :: r1) W)
    (h2 : laidMet Tryz.prog (("strconv.ErrSyntax", .iface "*errors.errorString" (.ptr (.agg [.lit (.string t2)]))) :: r2) W)
    {r4 : List (String × DataW Unit)} (h4 : laidMet Tryz.prog (("internal/strconv.uint64pow10", Rows.laid_internal_strconv_uint64pow10) :: r4) W)
    (hsh : W.ShapedOpen Tryz.prog) : GW W := by
  obtain ⟨a0, s0, hv0, -, -, -⟩ := laid_sentinel h1 (g := 0) (ti := 60) (by kernel_rfl) (by kernel_rfl) Tryz.underlying60 gw_row Tryz.underlying146 Tryz.underlying148 rfl rfl Tryz.underlying9 (by kernel_rfl) (by kernel_rfl)
  obtain ⟨a1, s1, hv1, -, -, -⟩ := laid_sentinel h2 (g := 3) (ti := 60) (by kernel_rfl) (by kernel_rfl) Tryz.underlying60 gw_row Tryz.underlying146 Tryz.underlying148 rfl rfl Tryz.underlying9 (by kernel_rfl) (by kernel_rfl)
  have c0 := World.var?_cell (P := Tryz.prog) (g := 0) (by kernel_rfl) hv0 0
  have c1 := World.var?_cell (P := Tryz.prog) (g := 3) (by kernel_rfl) hv1 0
  obtain ⟨m, hm⟩ := cell_of_shapedOpen_int (P := Tryz.prog) (g := 1) (t := 3) (zero := #[.int .i64 0]) hsh (of_decide_eq_true (by kernel_rfl)) (by kernel_rfl) rfl (by kernel_rfl) (by kernel_rfl) Tryz.underlying3
  have e4 : (Rows.laid_internal_strconv_uint64pow10 : DataW Unit) = Lib.tabData .u64 Lib.pow10Tab := by kernel_rfl
  rw [e4] at h4
  have hpow : Lib.TabIs Tryz.prog W "internal/strconv.uint64pow10" .u64 Lib.pow10Tab := Lib.tabIs_of_head (g := 2) (by kernel_rfl) (by kernel_rfl) Tryz.underlying131 Tryz.underlying101 (by kernel_rfl) (by kernel_rfl) h4
  exact {
    range := ⟨a0, by simpa using c0⟩
    syn := ⟨a1, by simpa using c1⟩
    max := ⟨m, hm⟩
    pow := hpow
  }
end Go.Proofs.YtfdikkdbmlcjiaaGreatDoor.M
end
section
namespace Go.Proofs.YtfdikkdbmlcjiaaGreatDoor.M
open Go.RowKit Go.Proofs.YtfdikkdbmlcjiaaGreatDoorW.PrintWords
set_option linter.unusedVariables false
set_option linter.unusedSimpArgs false
def isOct (c : UInt8) : Bool := decide (48 ≤ c.toNat) && decide (c.toNat < 56)
def octs (r : List UInt8) : List UInt8 := (r.take 3).takeWhile isOct
def octFold (acc : Nat) (l : List UInt8) : Nat := l.foldl (fun a c => a * 8 + (c.toNat - 48)) acc
theorem octFold_cons (acc : Nat) (c : UInt8) (l : List UInt8) : octFold acc (c :: l) = octFold (acc * 8 + (c.toNat - 48)) l := by unfold octFold; rw [List.foldl_cons]
theorem octFold_nil (acc : Nat) : octFold acc [] = acc := by unfold octFold; rw [List.foldl_nil]
attribute [irreducible] octFold
set_option maxHeartbeats 1600000 in
theorem number_loop (s : ByteArray) (d : Nat) : ∀ (i acc k : Nat), 3 - i = d → i ≤ 3 → i ≤ s.size → acc < 8 ^ i → d + 1 ≤ k →
    tok_number.l0 k s (acc : Int) (i : Int) = some (((octFold acc (((s.data.toList.drop i).take (3 - i)).takeWhile isOct) : Nat) : Int) % 256, ((i + (((s.data.toList.drop i).take (3 - i)).takeWhile isOct).length : Nat) : Int)) := by
  induction d with
  | zero =>
    intro i acc k hd hi hs ha hk
    obtain ⟨k, rfl⟩ : ∃ k', k = k' + 1 := ⟨k - 1, by omega⟩
    have : i = 3 := by omega
    subst this
    rw [tok_number.l0, if_neg (by omega), show 3 - 3 = 0 from rfl, List.take_zero, List.takeWhile_nil, octFold_nil, List.length_nil, Nat.add_zero]
  | succ d ih =>
    intro i acc k hd hi hs ha hk
    obtain ⟨k, rfl⟩ : ∃ k', k = k' + 1 := ⟨k - 1, by omega⟩
    rw [tok_number.l0, if_pos (by omega)]
    by_cases h1 : i < s.size
    · rw [if_pos (by omega), if_pos (by omega)]
      have hL : i < s.data.toList.length := by rw [← size_list]; exact h1
      have hdr : (s.data.toList.drop i).take (3 - i) = s.data.toList[i] :: (s.data.toList.drop (i + 1)).take (3 - (i + 1)) := by
        rw [List.drop_eq_getElem_cons hL, show 3 - i = (3 - (i + 1)) + 1 by omega, List.take_succ_cons]
      rw [hdr, bt_get s i h1]
      generalize s.data.toList[i] = c
      by_cases h2 : (c.toNat : Int) ≥ 48
      · rw [if_pos h2]
        by_cases h3 : (c.toNat : Int) < 56
        · have ho : isOct c = true := by unfold isOct; rw [Bool.and_eq_true, decide_eq_true_eq, decide_eq_true_eq]; omega
          have hi3 : i = 0 ∨ i = 1 ∨ i = 2 := by omega
          have ha2 : acc * 8 + (c.toNat - 48) < 8 ^ (i + 1) := by rw [Nat.pow_succ]; omega
          have hp : (8 : Nat) ^ i ≤ 64 := by rcases hi3 with rfl | rfl | rfl <;> decide
          rw [if_pos h3, List.takeWhile_cons, if_pos ho, octFold_cons, wrap_small (x := (acc : Int) * 8) (by omega) (by omega), show ((c.toNat : Int) - 48) % 256 = (c.toNat : Int) - 48 by omega,
            wrap_small (x := (acc : Int) * 8 + ((c.toNat : Int) - 48)) (by omega) (by omega), wrap_small (x := (i : Int) + 1) (by omega) (by omega)]
          have := ih (i + 1) (acc * 8 + (c.toNat - 48)) k (by omega) (by omega) (by omega) ha2 (by omega)
          rw [show (acc : Int) * 8 + ((c.toNat : Int) - 48) = ((acc * 8 + (c.toNat - 48) : Nat) : Int) by omega, show (i : Int) + 1 = ((i + 1 : Nat) : Int) by omega, this, List.length_cons]
          congr 3
          omega
        · have ho : isOct c = false := by unfold isOct; rw [Bool.and_eq_false_iff, decide_eq_false_iff_not, decide_eq_false_iff_not]; omega
          rw [if_neg h3, List.takeWhile_cons, if_neg (by rw [ho]; decide), octFold_nil, List.length_nil, Nat.add_zero]
      · have ho : isOct c = false := by unfold isOct; rw [Bool.and_eq_false_iff, decide_eq_false_iff_not, decide_eq_false_iff_not]; omega
        rw [if_neg h2, List.takeWhile_cons, if_neg (by rw [ho]; decide), octFold_nil, List.length_nil, Nat.add_zero]
    · rw [if_neg (by omega)]
      have hdr : s.data.toList.drop i = [] := List.drop_eq_nil_of_le (by rw [← size_list]; omega)
      rw [hdr, List.take_nil, List.takeWhile_nil, octFold_nil, List.length_nil, Nat.add_zero]
theorem number_eq (s : ByteArray) {k : Nat} (hk : 4 ≤ k) : tok_number.f k s = some (((octFold 0 (octs s.data.toList) : Nat) : Int) % 256, ((octs s.data.toList).length : Int)) := by
  unfold tok_number.f octs
  have := number_loop s 3 0 0 k rfl (by omega) (by omega) (by decide) (by omega)
  rw [List.drop_zero, Nat.zero_add] at this
  exact this
def letterOf (c : UInt8) : UInt8 := if c = 110 then 10 else if c = 114 then 13 else if c = 116 then 9 else if c = 98 then 8 else if c = 102 then 12 else c
/-- What a text behind a backslash begins with: its bytes, and how many they take. -/
def escG (r : List UInt8) : List UInt8 × Nat :=
  if 0 < (octs r).length then ([(octFold 0 (octs r) % 256).toUInt8], (octs r).length)
  else match r with
  | [] => ([], 0)
  | c :: t => if [13, 10].isPrefixOf (c :: t) then ([], 2) else if c = 10 ∨ c = 13 then ([], 1) else ([letterOf c], 1)
def idxT (c : UInt8) : Int := if c = 110 then 0 else if c = 114 then 1 else if c = 116 then 2 else if c = 98 then 3 else if c = 102 then 4 else -1
theorem idx_all : ∀ n : Fin 256, strings_IndexByte.f (⟨#[110, 114, 116, 98, 102]⟩ : ByteArray) (n.val : Int) = some (idxT n.val.toUInt8) := by decide +kernel
theorem idx_eq (c : UInt8) : strings_IndexByte.f (⟨#[110, 114, 116, 98, 102]⟩ : ByteArray) (c.toNat : Int) = some (idxT c) := by
  have := idx_all ⟨c.toNat, c.toNat_lt⟩
  rw [show ((⟨c.toNat, c.toNat_lt⟩ : Fin 256).val.toUInt8) = c from UInt8.ofNat_toNat] at this
  exact this
theorem str_one (n : Nat) : strOfNums [((n : Nat) : Int) % 256] = ⟨[(n % 256).toUInt8].toArray⟩ := by
  have : ((n : Nat) : Int) % 256 = ((n % 256 : Nat) : Int) := by omega
  rw [this]
  rfl
theorem letter_eq (c : UInt8) (x : ByteArray) (hx : x = ⟨#[c]⟩) : (if idxT c ≥ 0 then (if 0 ≤ idxT c then (if idxT c ≤ wrap64 (idxT c + 1) then (if wrap64 (idxT c + 1) ≤ 5 then some ((⟨#[10, 13, 9, 8, 12]⟩ : ByteArray).extract (idxT c).toNat (wrap64 (idxT c + 1)).toNat, (1 : Int)) else none) else none) else none) else some (x, 1)) = some (⟨#[letterOf c]⟩, 1) := by
  subst hx
  by_cases h1 : c = 110
  · subst h1
    rw [show idxT 110 = 0 by decide, show letterOf 110 = 10 by decide, show wrap64 (0 + 1) = 1 from wrap_small (by decide) (by decide), if_pos (by decide), if_pos (by decide), if_pos (by decide), if_pos (by decide), ext_mid]
    rfl
  by_cases h2 : c = 114
  · subst h2
    rw [show idxT 114 = 1 by decide, show letterOf 114 = 13 by decide, show wrap64 (1 + 1) = 2 from wrap_small (by decide) (by decide), if_pos (by decide), if_pos (by decide), if_pos (by decide), if_pos (by decide), ext_mid]
    rfl
  by_cases h3 : c = 116
  · subst h3
    rw [show idxT 116 = 2 by decide, show letterOf 116 = 9 by decide, show wrap64 (2 + 1) = 3 from wrap_small (by decide) (by decide), if_pos (by decide), if_pos (by decide), if_pos (by decide), if_pos (by decide), ext_mid]
    rfl
  by_cases h4 : c = 98
  · subst h4
    rw [show idxT 98 = 3 by decide, show letterOf 98 = 8 by decide, show wrap64 (3 + 1) = 4 from wrap_small (by decide) (by decide), if_pos (by decide), if_pos (by decide), if_pos (by decide), if_pos (by decide), ext_mid]
    rfl
  by_cases h5 : c = 102
  · subst h5
    rw [show idxT 102 = 4 by decide, show letterOf 102 = 12 by decide, show wrap64 (4 + 1) = 5 from wrap_small (by decide) (by decide), if_pos (by decide), if_pos (by decide), if_pos (by decide), if_pos (by decide), ext_mid]
    rfl
  have e1 : idxT c = -1 := by unfold idxT; simp only [h1, h2, h3, h4, h5, if_false]
  have e2 : letterOf c = c := by unfold letterOf; simp only [h1, h2, h3, h4, h5, if_false]
  rw [e1, e2, if_neg (by decide)]
theorem escaped_eq (s : ByteArray) {k : Nat} (hk : 4 ≤ k) : tok_escaped.f k s = some (⟨(escG s.data.toList).1.toArray⟩, ((escG s.data.toList).2 : Int)) := by
  unfold tok_escaped.f escG
  rw [number_eq s hk, Option.bind_some]
  dsimp only
  by_cases h0 : 0 < (octs s.data.toList).length
  · rw [if_pos (by omega), if_pos h0, str_one]
  rw [if_neg (by omega), if_neg h0]
  obtain ⟨k, rfl⟩ : ∃ k', k = k' + 1 := ⟨k - 1, by omega⟩
  rw [toList_data]
  rcases hs : s.data.toList with _ | ⟨c, t⟩
  · rw [if_pos rfl]; rfl
  rw [if_neg (by simp), hasPrefix_eq, Option.bind_some]
  have hsz : s.size = t.length + 1 := by rw [size_list, hs]; rfl
  have hbt : bt s 0 = c.toNat := by
    have := bt_get s 0 (by omega)
    rw [show ((0 : Nat) : Int) = 0 from rfl] at this
    rw [this]
    congr 1
    simp [hs]
  have hex : s.extract 0 1 = ⟨#[c]⟩ := by
    rw [ext_mid, hs]
    rfl
  rw [hs, show (⟨#[13, 10]⟩ : ByteArray).data.toList = [13, 10] from rfl]
  dsimp only
  by_cases hp : [13, 10].isPrefixOf (c :: t) = true
  · rw [if_pos hp, if_pos hp]; rfl
  rw [if_neg hp, if_neg hp, if_pos (by omega), hbt]
  by_cases h10 : c = 10
  · subst h10
    rw [if_pos (show (((10 : UInt8).toNat : Nat) : Int) = 10 from rfl), if_pos (show (10 : UInt8) = 10 ∨ (10 : UInt8) = 13 from .inl rfl), tok_escaped.j0, if_pos rfl]; rfl
  have n10 : ¬ ((c.toNat : Int) = 10) := fun e => h10 (UInt8.toNat_inj.1 (by show c.toNat = 10; omega))
  rw [if_neg n10, tok_escaped.j0]
  by_cases h13 : c = 13
  · subst h13
    rw [if_pos (show ((((13 : UInt8).toNat : Nat) : Int) == 13) = true from rfl), if_pos (show (13 : UInt8) = 10 ∨ (13 : UInt8) = 13 from .inr rfl)]; rfl
  have n13 : ¬ (((c.toNat : Int) == 13) = true) := fun e => h13 (UInt8.toNat_inj.1 (by have := beq_iff_eq.1 e; show c.toNat = 13; omega))
  rw [if_neg n13, if_neg (show ¬ (c = 10 ∨ c = 13) from fun e => e.elim h10 h13), if_pos (show (0 : Int) < (s.size : Int) by omega), hbt, idx_eq, Option.bind_some, if_pos (show (0 : Nat) ≤ 1 by decide), if_pos (show (1 : Int) ≤ (s.size : Int) by omega), letter_eq c _ hex]
  rfl
end Go.Proofs.YtfdikkdbmlcjiaaGreatDoor.M
end
section
namespace Go.Proofs.YtfdikkdbmlcjiaaGreatDoor.M
open Go.RowKit Go.Proofs.YtfdikkdbmlcjiaaGreatDoorW.PrintWords
set_option linter.unusedVariables false
set_option linter.unusedSimpArgs false
/-- How many bytes a new line takes that a text begins with, if it is one that begins with a carriage return. -/
def lineG (r : List UInt8) : Nat := if [13, 10].isPrefixOf r then 2 else if [13].isPrefixOf r then 1 else 0
theorem line_eq (s : ByteArray) : tok_line.f s = some (lineG s.data.toList : Int) := by
  unfold tok_line.f lineG
  rw [hasPrefix_eq, hasPrefix_eq, Option.bind_some, show (⟨#[13, 10]⟩ : ByteArray).data.toList = [13, 10] from rfl, show (⟨#[13]⟩ : ByteArray).data.toList = [13] from rfl]
  by_cases h1 : [13, 10].isPrefixOf s.data.toList = true
  · rw [if_pos h1, if_pos h1]; rfl
  rw [if_neg h1, if_neg h1, Option.bind_some]
  by_cases h2 : [13].isPrefixOf s.data.toList = true
  · rw [if_pos h2, if_pos h2]; rfl
  · rw [if_neg h2, if_neg h2]; rfl
def deepG (c : UInt8) (deep : Nat) : Nat := if c = 41 then deep - 1 else if c = 40 then deep + 1 else deep
/-- A Str behind its first bracket: the error, its bytes, and what is left. -/
def strG : Nat → Nat → List UInt8 → List UInt8 → Int × List UInt8 × List UInt8
  | 0, _, _, _ => (2, [], [])
  | _ + 1, _, _, [] => (2, [], [])
  | n + 1, deep, out, c :: t =>
    if c = 92 then (if (escG t).2 = 0 then (2, [], []) else strG n deep (out ++ (escG t).1) (t.drop (escG t).2))
    else if c = 41 ∧ deep = 1 then (0, out, t)
    else if c = 40 ∧ deep = 32 then (5, [], c :: t)
    else if 0 < lineG (c :: t) then strG n (deepG c deep) (out ++ [10]) ((c :: t).drop (lineG (c :: t)))
    else strG n (deepG c deep) (out ++ [c]) t
theorem octs_le (r : List UInt8) : (octs r).length ≤ 3 ∧ (octs r).length ≤ r.length := by
  unfold octs
  have h1 := (List.takeWhile_sublist (p := isOct) (l := r.take 3)).length_le
  rw [List.length_take] at h1
  omega
theorem escG_le (r : List UInt8) : (escG r).2 ≤ r.length ∧ (escG r).1.length ≤ 1 := by
  unfold escG
  have h := octs_le r
  split
  · exact ⟨h.2, by simp⟩
  · split
    · simp
    · rename_i c t _ _
      split
      · rename_i hp
        have := (List.isPrefixOf_iff_prefix.1 hp).length_le
        exact ⟨this, by simp⟩
      · split <;> simp
theorem lineG_le (r : List UInt8) : lineG r ≤ r.length ∧ lineG r ≤ 2 := by
  unfold lineG
  split
  · rename_i hp
    have := (List.isPrefixOf_iff_prefix.1 hp).length_le
    exact ⟨this, by omega⟩
  · split
    · rename_i hp
      have := (List.isPrefixOf_iff_prefix.1 hp).length_le
      exact ⟨this, by omega⟩
    · exact ⟨by omega, by omega⟩
theorem from_eq (a0 : ByteArray) (i : Nat) (hi : i ≤ a0.size) : tok_source_from.f a0 (i : Int) = some ⟨(a0.data.toList.drop i).toArray⟩ := by
  have hmn : mn (i : Int) (a0.size : Int) = (i : Int) := by unfold mn; split <;> omega
  unfold tok_source_from.f
  rw [hmn, if_pos (by omega), if_pos (by omega), Int.toNat_natCast, ext_from]
def strAns (a0 : ByteArray) (a1 : Int) (x : Int × List UInt8 × List UInt8) : TokR :=
  if x.1 = 0 then (5, a1, 0, ⟨x.2.1.toArray⟩, ((a0.size - x.2.2.length : Nat) : Int), 0) else (0, 0, 0, ⟨#[]⟩, ((a0.size - x.2.2.length : Nat) : Int), x.1)
set_option maxHeartbeats 1600000 in
theorem strung_loop (a0 : ByteArray) (a1 : Int) (hs : a0.size ≤ 140737488351000) (K : Nat) (hK : 4 ≤ K) : ∀ (n i deep k : Nat) (out : List UInt8), i ≤ a0.size → a0.size - i < n → n ≤ k → 1 ≤ deep → deep ≤ 32 → out.length ≤ i →
    tok_source_strung.g K a0 a1 k out (deep : Int) (i : Int) = some (strAns a0 a1 (strG n deep out (a0.data.toList.drop i)))
  | 0, i, deep, k, out => fun _ h => by omega
  | n + 1, i, deep, k, out => by
    intro hi hn hk hd1 hd2 ho
    obtain ⟨k, rfl⟩ : ∃ k', k = k' + 1 := ⟨k - 1, by omega⟩
    have ih := strung_loop a0 a1 hs K hK n
    rw [tok_source_strung.g, if_pos ⟨by omega, by omega, by omega, by omega, by omega, by omega⟩, from_eq a0 i hi, Option.bind_some]
    have hdl : (a0.data.toList.drop i).length = a0.size - i := by rw [List.length_drop, ← size_list]
    have hdd : ∀ m, (a0.data.toList.drop i).drop m = a0.data.toList.drop (i + m) := fun m => by rw [List.drop_drop]
    generalize hr : a0.data.toList.drop i = r at hdl hdd
    rcases r with _ | ⟨c, t⟩
    · rw [if_pos (show (⟨([] : List UInt8).toArray⟩ : ByteArray).size = 0 from rfl), strG]
      rfl
    have hsz : (⟨(c :: t).toArray⟩ : ByteArray).size = t.length + 1 := by rw [size_list, ba_list]; rfl
    have hbt : bt (⟨(c :: t).toArray⟩ : ByteArray) 0 = (c.toNat : Int) := by
      have := bt_get (⟨(c :: t).toArray⟩ : ByteArray) 0 (by omega)
      rw [show ((0 : Nat) : Int) = 0 from rfl] at this
      rw [this]
      simp
    have htl : (⟨(c :: t).toArray⟩ : ByteArray).extract 1 (⟨(c :: t).toArray⟩ : ByteArray).size = ⟨t.toArray⟩ := by
      have := ext_from (⟨(c :: t).toArray⟩ : ByteArray) 1
      rw [this, ba_list]
      rfl
    rw [List.length_cons] at hdl
    rw [if_neg (by omega), hbt, htl, strG]
    by_cases h92 : c = 92
    · subst h92
      rw [if_pos (show (((92 : UInt8).toNat : Nat) : Int) = 92 from rfl), if_pos (show (92 : UInt8) = 92 from rfl), escaped_eq _ hK, Option.bind_some, ba_list]
      dsimp only
      have he := escG_le t
      by_cases h0 : (escG t).2 = 0
      · rw [if_pos (by omega), if_pos h0]
        rfl
      rw [if_neg (by omega), if_neg h0, if_pos ⟨by omega, by omega, by rw [size_list, ba_list]; omega⟩]
      have := ih (i + 1 + (escG t).2) deep k (out ++ (escG t).1) (by omega) (by omega) (by omega) hd1 hd2 (by rw [List.length_append]; omega)
      rw [show (i : Int) + (1 + ((escG t).2 : Int)) = ((i + 1 + (escG t).2 : Nat) : Int) by omega, this]
      have hx := hdd (1 + (escG t).2)
      rw [show i + (1 + (escG t).2) = i + 1 + (escG t).2 by omega, ← List.drop_drop, List.drop_one, List.tail_cons] at hx
      rw [hx]
    have n92 : ¬ ((c.toNat : Int) = 92) := fun e => h92 (UInt8.toNat_inj.1 (by show c.toNat = 92; omega))
    rw [if_neg n92, if_neg h92]
    have cast : ∀ x : UInt8, ((c.toNat : Int) = (x.toNat : Int)) ↔ c = x := fun x => ⟨fun e => UInt8.toNat_inj.1 (by omega), fun e => by rw [e]⟩
    have c41 := cast 41
    have c40 := cast 40
    rw [show (((41 : UInt8).toNat : Nat) : Int) = 41 from rfl] at c41
    rw [show (((40 : UInt8).toNat : Nat) : Int) = 40 from rfl] at c40
    by_cases h41 : c = 41 ∧ deep = 1
    · rw [if_pos ⟨c41.2 h41.1, by omega⟩, if_pos h41]
      show _ = some (strAns a0 a1 ((0 : Int), out, t))
      unfold strAns
      rw [if_pos rfl]
      dsimp only
      rw [show a0.size - t.length = i + 1 by omega]
      rfl
    rw [if_neg (fun e => h41 ⟨c41.1 e.1, by have := e.2; omega⟩), if_neg h41]
    by_cases h40 : c = 40 ∧ deep = 32
    · rw [if_pos ⟨c40.2 h40.1, by omega⟩, if_pos h40]
      show _ = some (strAns a0 a1 ((5 : Int), [], c :: t))
      unfold strAns
      rw [if_neg (show ¬ (5 : Int) = 0 by decide)]
      dsimp only
      rw [List.length_cons, show a0.size - (t.length + 1) = i by omega]
    rw [if_neg (fun e => h40 ⟨c40.1 e.1, by have := e.2; omega⟩), if_neg h40]
    have hdp : deepOf (c.toNat : Int) (deep : Int) = ((deepG c deep : Nat) : Int) ∧ 1 ≤ deepG c deep ∧ deepG c deep ≤ 32 := by
      unfold deepOf deepG
      by_cases e1 : c = 41
      · have : deep ≠ 1 := fun e => h41 ⟨e1, e⟩
        rw [if_pos (c41.2 e1), if_pos e1]
        omega
      rw [if_neg (fun e => e1 (c41.1 e)), if_neg e1]
      by_cases e2 : c = 40
      · have : deep ≠ 32 := fun e => h40 ⟨e2, e⟩
        rw [if_pos (c40.2 e2), if_pos e2]
        omega
      · rw [if_neg (fun e => e2 (c40.1 e)), if_neg e2]
        omega
    have hl := lineG_le (c :: t)
    rw [List.length_cons] at hl
    rw [line_eq, Option.bind_some, ba_list, hdp.1]
    by_cases h0 : 0 < lineG (c :: t)
    · rw [if_pos ⟨by omega, by omega⟩, if_pos h0]
      have := ih (i + lineG (c :: t)) (deepG c deep) k (out ++ [10]) (by omega) (by omega) (by omega) hdp.2.1 hdp.2.2 (by rw [List.length_append, List.length_singleton]; omega)
      rw [show (i : Int) + (lineG (c :: t) : Int) = ((i + lineG (c :: t) : Nat) : Int) by omega, this, hdd]
    · rw [if_neg (fun e => h0 (by have := e.1; omega)), if_pos (by omega), if_neg h0, show (c.toNat : Int).toNat.toUInt8 = c from by rw [Int.toNat_natCast]; exact UInt8.ofNat_toNat]
      have := ih (i + 1) (deepG c deep) k (out ++ [c]) (by omega) (by omega) (by omega) hdp.2.1 hdp.2.2 (by rw [List.length_append, List.length_singleton]; omega)
      rw [show (i : Int) + 1 = ((i + 1 : Nat) : Int) by omega, this, ← hdd 1]
      rfl
end Go.Proofs.YtfdikkdbmlcjiaaGreatDoor.M
end
section
namespace Go.Proofs.YtfdikkdbmlcjiaaGreatDoor.M
open Go.RowKit Go.Proofs.YtfdikkdbmlcjiaaGreatDoorW.PrintWords
set_option linter.unusedVariables false
set_option linter.unusedSimpArgs false
/-- A digit that waits for its second one stands as a byte already. -/
def rowOf (acc : List Int) : Option Int → List Int
  | none => acc
  | some h => acc ++ [h * 16]
def unhG : List Int → Option Int → List UInt8 → Int × List Int × List UInt8
  | acc, hi, [] => (0, rowOf acc hi, [])
  | acc, hi, c :: t => match hexVal c.toNat with
    | some v => (match hi with | none => unhG acc (some v) t | some h => unhG (acc ++ [h * 16 + v]) none t)
    | none => if isWhite c.toNat = true then unhG acc hi t else (1, [], c :: t)
def unhAns (s : ByteArray) (x : Int × List Int × List UInt8) : List Int × Int × Int := if x.1 = 0 then (x.2.1, (s.size : Int), 0) else ([], ((s.size - x.2.2.length : Nat) : Int), 1)
theorem hexVal_lt {c v : Int} (h : hexVal c = some v) : 0 ≤ v ∧ v < 16 := by
  unfold hexVal at h
  split at h
  · injection h; omega
  · split at h
    · injection h; omega
    · split at h
      · injection h; omega
      · cases h
theorem or_all : ∀ h v : Fin 16, Go.bits .or .u8 ((h.val : Int) * 16) (v.val : Int) = (h.val : Int) * 16 + v.val := by decide +kernel
theorem or_eq (h v : Int) (h0 : 0 ≤ h) (h1 : h < 16) (v0 : 0 ≤ v) (v1 : v < 16) : Go.bits .or .u8 (h * 16) v = h * 16 + v := by
  have := or_all ⟨h.toNat, by omega⟩ ⟨v.toNat, by omega⟩
  dsimp only at this
  rw [Int.toNat_of_nonneg h0, Int.toNat_of_nonneg v0] at this
  exact this
theorem rowOf_length (acc : List Int) (hi : Option Int) : (rowOf acc hi).length ≤ acc.length + 1 := by
  unfold rowOf; split <;> simp
set_option maxHeartbeats 1600000 in
theorem unhex_loop (s : ByteArray) (hs : s.size < 140737488355000) (d : Nat) : ∀ (i k : Nat) (acc : List Int) (hi : Option Int), s.size - i = d → i ≤ s.size → 2 * d + 4 ≤ k → acc.length + 1 ≤ i + 1 → (∀ h, hi = some h → 0 ≤ h ∧ h < 16) →
    hex_UnHex.l0 k s (rowOf acc hi) hi.isNone (s.size : Int) (i : Int) = some (unhAns s (unhG acc hi (s.data.toList.drop i))) := by
  induction d with
  | zero =>
    intro i k acc hi hd h0 hk ha hh
    obtain ⟨k, rfl⟩ : ∃ k', k = k' + 1 := ⟨k - 1, by omega⟩
    rw [hex_UnHex.l0, if_neg (by omega), List.drop_eq_nil_of_le (by rw [← size_list]; omega)]
    cases hi <;> rfl
  | succ d ih =>
    intro i k acc hi hd h0 hk ha hh
    obtain ⟨k, rfl⟩ : ∃ k', k = k' + 2 := ⟨k - 2, by omega⟩
    have hlt : i < s.size := by omega
    have hL : i < s.data.toList.length := by rw [← size_list]; exact hlt
    have hdr := List.drop_eq_getElem_cons hL
    have hrem : (s.data.toList.drop i).length = s.size - i := by rw [List.length_drop, ← size_list]
    rw [hex_UnHex.l0, if_pos (by omega), if_pos (by omega), if_pos (by omega), bt_get s i hlt]
    rw [hdr] at hrem ⊢
    generalize s.data.toList[i] = c at hrem ⊢
    have hc := c.toNat_lt
    have hnx : wrap64 ((i : Int) + 1) = ((i + 1 : Nat) : Int) := wrap_small (by omega) (by omega)
    rw [wrap_small (x := (c.toNat : Int)) (by omega) (by omega), digit_eq (by omega) _ (by omega) (by omega), Option.bind_some]
    dsimp only
    rw [unhG]
    have ih2 := ih (i + 1) k
    cases hv : hexVal c.toNat with
    | some v =>
      have hvb := hexVal_lt hv
      rw [if_pos (show (some v).isSome = true from rfl), hex_UnHex.j1, if_neg (show ¬ (false = true) by decide), if_pos (show (some v).isSome = true from rfl), hnx]
      dsimp only [Option.getD_some]
      cases hi with
      | none =>
        rw [if_pos (show (none : Option Int).isNone = true from rfl), if_pos (by have := rowOf_length acc none; omega), wrap_small (x := v * 16) (by omega) (by omega), show v * 16 % 256 = v * 16 by omega]
        have := ih2 acc (some v) (by omega) (by omega) (by omega) (by omega) (fun h e => by cases e; exact hvb)
        exact this
      | some h =>
        have hb := hh h rfl
        have hlen : (rowOf acc (some h)).length = acc.length + 1 := by simp [rowOf]
        rw [if_neg (show ¬ ((some h).isNone = true) by simp), hlen, wrap_small (x := ((acc.length + 1 : Nat) : Int) - 1) (by omega) (by omega), if_pos (by omega), if_pos (by omega), show (((acc.length + 1 : Nat) : Int) - 1) = (acc.length : Int) by omega]
        have hrd : rd (rowOf acc (some h)) (acc.length : Int) = h * 16 := by
          unfold rd rowOf
          rw [Int.toNat_natCast]
          simp
        have hset : (rowOf acc (some h)).set (acc.length : Int).toNat (h * 16 + v) = acc ++ [h * 16 + v] := by
          rw [Int.toNat_natCast]
          simp [rowOf]
        rw [hrd, show v % 256 = v by omega, or_eq h v hb.1 hb.2 hvb.1 hvb.2, hset]
        have := ih2 (acc ++ [h * 16 + v]) none (by omega) (by omega) (by omega) (by rw [List.length_append, List.length_singleton]; omega) (fun h e => by cases e)
        exact this
    | none =>
      rw [if_neg (show ¬ ((none : Option Int).isSome = true) by simp)]
      rw [show hex_White.f (c.toNat : Int) = some (isWhite c.toNat) from rfl, Option.bind_some, hex_UnHex.j1]
      by_cases hw : isWhite c.toNat = true
      · rw [if_pos hw, if_pos hw, hnx]
        exact ih2 acc hi (by omega) (by omega) (by omega) (by omega) hh
      · rw [if_neg hw, if_neg hw, if_neg (show ¬ ((none : Option Int).isSome = true) by simp)]
        unfold unhAns
        rw [if_neg (show ¬ (1 : Int) = 0 by decide)]
        dsimp only
        rw [hrem, show s.size - (s.size - i) = i by omega]
theorem unhex_eq (s : ByteArray) (hs : s.size < 140737488355000) {k : Nat} (hk : 2 * s.size + 4 ≤ k) : hex_UnHex.f k s = some (unhAns s (unhG [] none s.data.toList)) := by
  have := unhex_loop s hs s.size 0 k [] none (by omega) (by omega) hk (by simp) (fun h e => by cases e)
  rw [List.drop_zero] at this
  exact this
end Go.Proofs.YtfdikkdbmlcjiaaGreatDoor.M
end
section
namespace Go.Proofs.YtfdikkdbmlcjiaaGreatDoor.M
open Go.RowKit Go.Proofs.YtfdikkdbmlcjiaaGreatDoorW.PrintWords
set_option linter.unusedVariables false
def isRegB (c : UInt8) : Bool := clsOf c.toNat == 0
def wordAt (l : List UInt8) (i : Nat) : List UInt8 := (l.drop i).takeWhile isRegB
def placeN (s : ByteArray) (a : Int) : Nat := (max 0 (min a s.size)).toNat
theorem placeN_le (s : ByteArray) (a : Int) : placeN s a ≤ s.size := by unfold placeN; omega
theorem place_eq (s : ByteArray) (a : Int) : lex_place.f s a = some (placeN s a : Int) := by
  unfold lex_place.f placeN
  congr 1
  unfold mx mn
  repeat' split
  all_goals omega
theorem wordAt_cons (l : List UInt8) (i : Nat) (h : i < l.length) (hr : isRegB l[i] = true) : wordAt l i = l[i] :: wordAt l (i + 1) := by
  unfold wordAt
  rw [List.drop_eq_getElem_cons h, List.takeWhile_cons, if_pos hr]
theorem wordAt_stop (l : List UInt8) (i : Nat) (h : i < l.length) (hr : isRegB l[i] = false) : wordAt l i = [] := by
  unfold wordAt
  rw [List.drop_eq_getElem_cons h, List.takeWhile_cons, if_neg (by simp [hr])]
theorem wordAt_end (l : List UInt8) (i : Nat) (h : l.length ≤ i) : wordAt l i = [] := by
  unfold wordAt
  rw [List.drop_of_length_le h]; rfl
theorem wordAt_le (l : List UInt8) (i : Nat) (h : i ≤ l.length) : i + (wordAt l i).length ≤ l.length := by
  have : (wordAt l i).length ≤ (l.drop i).length := by unfold wordAt; exact (List.takeWhile_prefix _).length_le
  rw [List.length_drop] at this; omega
theorem cls_get (s : ByteArray) (i : Nat) (h : i < s.size) {k : Nat} (hk : 2 ≤ k) : lex_Class.f k (wrap64 (bt s i)) = some (clsOf (s.data.toList[i]'(by simpa using h)).toNat) := by
  have hr := bt_range s i
  rw [wrap_small hr.1 (by omega), bt_get s i h, class_eq hk]
theorem word_loop (s : ByteArray) (hs : s.size < 4611686018427387904) (a : Nat) (d : Nat) : ∀ (i k : Nat), s.size - i = d → i ≤ s.size → a ≤ i → d + 4 ≤ k →
    lex_Word.l0 k s a i = some (s.extract a (i + (wordAt s.data.toList i).length), ((i + (wordAt s.data.toList i).length : Nat) : Int)) := by
  induction d with
  | zero =>
    intro i k hd hi ha hk
    obtain ⟨k, rfl⟩ : ∃ m, k = m + 1 := ⟨k - 1, by omega⟩
    simp only [lex_Word.l0]
    rw [wordAt_end _ _ (by rw [← size_list]; omega), if_neg (by omega), if_pos (by omega), if_pos (by omega), if_pos (by omega)]
    simp
  | succ d ih =>
    intro i k hd hi ha hk
    obtain ⟨k, rfl⟩ : ∃ m, k = m + 1 := ⟨k - 1, by omega⟩
    have hlt : i < s.size := by omega
    have hl : i < s.data.toList.length := by rw [← size_list]; exact hlt
    simp only [lex_Word.l0]
    rw [if_pos (by omega), if_pos (by omega), cls_get s i hlt (by omega)]
    simp only [Option.bind_some]
    by_cases hr : isRegB s.data.toList[i] = true
    · have h0 : clsOf (s.data.toList[i]).toNat = 0 := by simpa [isRegB] using hr
      rw [if_pos h0, wrap_small (by omega) (by omega)]
      have := ih (i + 1) k (by omega) (by omega) (by omega) (by omega)
      rw [show ((i : Int) + 1) = ((i + 1 : Nat) : Int) by omega, this, wordAt_cons _ _ hl hr]
      simp only [List.length_cons]
      rw [show i + 1 + (wordAt s.data.toList (i + 1)).length = i + ((wordAt s.data.toList (i + 1)).length + 1) by omega]
    · have h0 : ¬ clsOf (s.data.toList[i]).toNat = 0 := by simpa [isRegB] using hr
      have hr' : isRegB s.data.toList[i] = false := by simpa using hr
      rw [if_neg h0, wordAt_stop _ _ hl hr', if_pos (by omega), if_pos (by omega), if_pos (by omega)]
      simp
/-- What Word tells. -/
theorem word_eq (s : ByteArray) (hs : s.size < 4611686018427387904) (a : Int) {k : Nat} (hk : s.size + 4 ≤ k) :
    lex_Word.f k s a = some (⟨(wordAt s.data.toList (placeN s a)).toArray⟩, ((placeN s a + (wordAt s.data.toList (placeN s a)).length : Nat) : Int)) := by
  unfold lex_Word.f
  rw [place_eq]
  simp only [Option.bind_some]
  rw [word_loop s hs (placeN s a) _ (placeN s a) k rfl (placeN_le s a) (Nat.le_refl _) (by omega), ext_mid]
  have e : (s.data.toList.drop (placeN s a)).take (placeN s a + (wordAt s.data.toList (placeN s a)).length - placeN s a) = wordAt s.data.toList (placeN s a) := by
    rw [Nat.add_sub_cancel_left]
    unfold wordAt
    exact (List.prefix_iff_eq_take.1 (List.takeWhile_prefix _)).symm
  rw [e]
theorem hex_back : ∀ n : Fin 256, hexVal (hexDig (n.val / 16)).toNat = some ((n.val / 16 : Nat) : Int) ∧ hexVal (hexDig (n.val % 16)).toNat = some ((n.val % 16 : Nat) : Int) := by decide +kernel
theorem write_ok : ∀ n : Fin 256, (writeOf n.val.toUInt8).all (fun c => decide (33 ≤ c.toNat) && decide (c.toNat ≤ 126) && isRegB c) = true := by decide +kernel
theorem writeOf_ok (c : UInt8) : (writeOf c).all (fun c => decide (33 ≤ c.toNat) && decide (c.toNat ≤ 126) && isRegB c) = true := by
  have := write_ok ⟨c.toNat, c.toNat_lt⟩
  simpa using this
theorem writeBytes_ok (l : List UInt8) : (writeBytes l).all (fun c => decide (33 ≤ c.toNat) && decide (c.toNat ≤ 126) && isRegB c) = true := by
  unfold writeBytes
  rw [List.all_flatMap]
  exact List.all_eq_true.2 fun c _ => writeOf_ok c
theorem name_write (l : List UInt8) : nameGo (writeBytes l) = l := by
  induction l with
  | nil => rfl
  | cons c l ih =>
    simp only [writeBytes, List.flatMap_cons] at ih ⊢
    by_cases hp : isPlainB (c.toNat : Int) = true
    · have e : writeOf c = [c] := by unfold writeOf; rw [if_pos hp]
      have hc : (c == 35) = false := by
        rw [beq_eq_false_iff_ne]
        rintro rfl
        simp [isPlainB] at hp
      rw [e]
      show nameGo (c :: List.flatMap writeOf l) = _
      rw [nameGo_plain c _ hc, ih]
    · have e : writeOf c = 35 :: hexOf c.toNat := by unfold writeOf; rw [if_neg hp]
      have hb := hex_back ⟨c.toNat, c.toNat_lt⟩
      simp only at hb
      rw [e]
      simp only [hexOf, Int.toNat_natCast]
      show nameGo (35 :: hexDig (c.toNat / 16) :: hexDig (c.toNat % 16) :: List.flatMap writeOf l) = _
      rw [nameGo_yes _ _ _ _ _ hb.1 hb.2, ih]
      congr 1
      have : (((c.toNat / 16 : Nat) : Int) * 16 + ((c.toNat % 16 : Nat) : Int)).toNat = c.toNat := by omega
      rw [this]
      simp
end Go.Proofs.YtfdikkdbmlcjiaaGreatDoor.M
end
section
namespace Go.Proofs.YtfdikkdbmlcjiaaGreatDoor.M
open Go.RowKit Go.Proofs.YtfdikkdbmlcjiaaGreatDoorW.PrintWords
set_option linter.unusedVariables false
def isNL (c : UInt8) : Bool := c == 10 || c == 13
/-- How many bytes are skipped; the first argument: in a remark. -/
def skipG : Bool → List UInt8 → Nat
  | _, [] => 0
  | true, c :: r => 1 + skipG (!isNL c) r
  | false, c :: r => if c == 37 then 1 + skipG true r else if clsOf c.toNat == 1 then 1 + skipG false r else 0
def nlAt (r : List UInt8) : Nat := (r.takeWhile (fun c => !isNL c)).length
theorem skipG_le : ∀ (l : List UInt8) (b : Bool), skipG b l ≤ l.length
  | [], b => by cases b <;> simp [skipG]
  | c :: r, true => by have := skipG_le r (!isNL c); simp only [skipG, List.length_cons]; omega
  | c :: r, false => by
    have h1 := skipG_le r true
    have h2 := skipG_le r false
    simp only [skipG, List.length_cons]
    split
    · omega
    · split <;> omega
theorem skipG_remark : ∀ r : List UInt8, skipG true r = if nlAt r < r.length then nlAt r + 1 + skipG false (r.drop (nlAt r + 1)) else r.length
  | [] => by simp [skipG, nlAt]
  | c :: r => by
    have ih := skipG_remark r
    simp only [skipG]
    cases hc : isNL c with
    | true =>
      have e : nlAt (c :: r) = 0 := by simp [nlAt, hc]
      rw [e, if_pos (by simp)]
      simp
    | false =>
      have e : nlAt (c :: r) = nlAt r + 1 := by simp [nlAt, hc]
      rw [e, Bool.not_false, ih]
      simp only [List.length_cons, List.drop_succ_cons]
      by_cases hl : nlAt r < r.length
      · rw [if_pos hl, if_pos (by omega)]; omega
      · rw [if_neg hl, if_neg (by omega)]; omega
/-- Where the remark ends, as the program finds it. -/
def endOf (r : List UInt8) : Int := if 0 ≤ Lib.indexByte r 13 ∧ (Lib.indexByte r 10 < 0 ∨ Lib.indexByte r 13 < Lib.indexByte r 10) then Lib.indexByte r 13 else Lib.indexByte r 10
theorem indexByte_cons (c : UInt8) (r : List UInt8) (x : UInt8) : Lib.indexByte (c :: r) x = if c = x then 0 else if Lib.indexByte r x = -1 then -1 else Lib.indexByte r x + 1 := by
  simp [Lib.indexByte]
theorem endOf_eq : ∀ r : List UInt8, endOf r = if nlAt r < r.length then (nlAt r : Int) else -1
  | [] => by simp [endOf, nlAt, Lib.indexByte]
  | c :: r => by
    have ih := endOf_eq r
    have ha := Lib.indexByte_ge r 10
    have hb := Lib.indexByte_ge r 13
    have ea := indexByte_cons c r 10
    have eb := indexByte_cons c r 13
    unfold endOf at ih ⊢
    generalize Lib.indexByte (c :: r) 10 = A at ea ⊢
    generalize Lib.indexByte (c :: r) 13 = B at eb ⊢
    generalize Lib.indexByte r 10 = a at ea ih ha
    generalize Lib.indexByte r 13 = b at eb ih hb
    by_cases h10 : c = 10
    · subst h10
      have e : nlAt (10 :: r) = 0 := by simp [nlAt, isNL]
      rw [if_pos rfl] at ea
      rw [if_neg (by decide)] at eb
      have hr : (if nlAt (10 :: r) < (10 :: r).length then ((nlAt (10 :: r) : Nat) : Int) else -1) = 0 := by rw [e]; simp
      rw [hr]
      split at eb <;> (split <;> omega)
    · by_cases h13 : c = 13
      · subst h13
        have e : nlAt (13 :: r) = 0 := by simp [nlAt, isNL]
        rw [if_pos rfl] at eb
        rw [if_neg (by decide)] at ea
        have hr : (if nlAt (13 :: r) < (13 :: r).length then ((nlAt (13 :: r) : Nat) : Int) else -1) = 0 := by rw [e]; simp
        rw [hr]
        split at ea <;> (split <;> omega)
      · have e : nlAt (c :: r) = nlAt r + 1 := by simp [nlAt, isNL, h10, h13]
        rw [if_neg h10] at ea
        rw [if_neg h13] at eb
        by_cases hn : nlAt r < r.length
        · rw [if_pos hn] at ih
          have hr : (if nlAt (c :: r) < (c :: r).length then ((nlAt (c :: r) : Nat) : Int) else -1) = ((nlAt r + 1 : Nat) : Int) := by rw [e, List.length_cons, if_pos (by omega)]
          rw [hr]
          split at ih <;> split at ea <;> split at eb <;> (split <;> omega)
        · rw [if_neg hn] at ih
          have hr : (if nlAt (c :: r) < (c :: r).length then ((nlAt (c :: r) : Nat) : Int) else -1) = -1 := by rw [e, List.length_cons, if_neg (by omega)]
          rw [hr]
          split at ih <;> split at ea <;> split at eb <;> (split <;> omega)
theorem skip_loop (s : ByteArray) (hs : s.size < 4611686018427387904) (d : Nat) : ∀ (i k : Nat), s.size - i ≤ d → i ≤ s.size → 2 * d + 4 ≤ k →
    lex_Skip.l0 k s i = some ((i + skipG false (s.data.toList.drop i) : Nat) : Int) := by
  induction d with
  | zero =>
    intro i k hd hi hk
    obtain ⟨k, rfl⟩ : ∃ m, k = m + 1 := ⟨k - 1, by omega⟩
    simp only [lex_Skip.l0]
    rw [if_neg (by omega), List.drop_of_length_le (by rw [← size_list]; omega)]
    simp [skipG]
  | succ d ih =>
    intro i k hd hi hk
    obtain ⟨k, rfl⟩ : ∃ m, k = m + 1 := ⟨k - 1, by omega⟩
    by_cases hlt : i < s.size
    · have hl : i < s.data.toList.length := by rw [← size_list]; exact hlt
      simp only [lex_Skip.l0]
      rw [if_pos (by omega), if_pos (by omega), bt_get s i hlt, List.drop_eq_getElem_cons hl]
      by_cases hc : (s.data.toList[i].toNat : Int) = 37
      · have hc' : s.data.toList[i] = 37 := UInt8.toNat_inj.1 (show s.data.toList[i].toNat = (37 : UInt8).toNat by have : (37 : UInt8).toNat = 37 := rfl; omega)
        rw [if_pos hc, if_pos (by omega)]
        obtain ⟨k, rfl⟩ : ∃ m, k = m + 1 := ⟨k - 1, by omega⟩
        have hx : s.extract (i : Int).toNat s.size = ⟨(s.data.toList.drop i).toArray⟩ := by rw [Int.toNat_natCast, ext_from]
        rw [hx]
        simp only [strings_IndexByte.f, Option.bind_some, show (Int.toNat 13).toUInt8 = 13 from rfl, show (Int.toNat 10).toUInt8 = 10 from rfl]
        have hb := Lib.indexByte_ge (s.data.toList.drop i) 13
        have ha := Lib.indexByte_ge (s.data.toList.drop i) 10
        have he := endOf_eq (s.data.toList.drop i)
        have hlen : (s.data.toList.drop i).length = s.size - i := by rw [List.length_drop, ← size_list]
        have hnl : nlAt (s.data.toList.drop i) ≤ (s.data.toList.drop i).length := by unfold nlAt; exact (List.takeWhile_prefix _).length_le
        have hsk : skipG false (s.data.toList[i] :: s.data.toList.drop (i + 1)) = skipG true (s.data.toList.drop i) := by
          rw [List.drop_eq_getElem_cons hl, hc']; simp [skipG, isNL]
        rw [hsk, skipG_remark]
        have key : lex_Skip.j1 (k + 1) s i (Lib.indexByte (s.data.toList.drop i) 10) (Lib.indexByte (s.data.toList.drop i) 13) (decide (0 ≤ Lib.indexByte (s.data.toList.drop i) 13 ∧ (Lib.indexByte (s.data.toList.drop i) 10 < 0 ∨ Lib.indexByte (s.data.toList.drop i) 13 < Lib.indexByte (s.data.toList.drop i) 10))) = if endOf (s.data.toList.drop i) < 0 then some (s.size : Int) else lex_Skip.l0 k s (wrap64 ((wrap64 (i + endOf (s.data.toList.drop i))) + 1)) := by
          by_cases hcnd : 0 ≤ Lib.indexByte (s.data.toList.drop i) 13 ∧ (Lib.indexByte (s.data.toList.drop i) 10 < 0 ∨ Lib.indexByte (s.data.toList.drop i) 13 < Lib.indexByte (s.data.toList.drop i) 10)
          · have e : endOf (s.data.toList.drop i) = Lib.indexByte (s.data.toList.drop i) 13 := by unfold endOf; rw [if_pos hcnd]
            rw [e, decide_eq_true hcnd, lex_Skip.j1, if_pos rfl]
          · have e : endOf (s.data.toList.drop i) = Lib.indexByte (s.data.toList.drop i) 10 := by unfold endOf; rw [if_neg hcnd]
            rw [e, decide_eq_false hcnd, lex_Skip.j1, if_neg (by decide)]
        have key2 : (if Lib.indexByte (s.data.toList.drop i) 13 ≥ 0 then (if Lib.indexByte (s.data.toList.drop i) 10 < 0 then lex_Skip.j1 (k + 1) s i (Lib.indexByte (s.data.toList.drop i) 10) (Lib.indexByte (s.data.toList.drop i) 13) true else lex_Skip.j1 (k + 1) s i (Lib.indexByte (s.data.toList.drop i) 10) (Lib.indexByte (s.data.toList.drop i) 13) (decide (Lib.indexByte (s.data.toList.drop i) 13 < Lib.indexByte (s.data.toList.drop i) 10))) else lex_Skip.j1 (k + 1) s i (Lib.indexByte (s.data.toList.drop i) 10) (Lib.indexByte (s.data.toList.drop i) 13) false) = lex_Skip.j1 (k + 1) s i (Lib.indexByte (s.data.toList.drop i) 10) (Lib.indexByte (s.data.toList.drop i) 13) (decide (0 ≤ Lib.indexByte (s.data.toList.drop i) 13 ∧ (Lib.indexByte (s.data.toList.drop i) 10 < 0 ∨ Lib.indexByte (s.data.toList.drop i) 13 < Lib.indexByte (s.data.toList.drop i) 10))) := by
          split
          · rename_i h1
            split
            · rename_i h2
              rw [decide_eq_true (show _ ∧ _ from ⟨h1, .inl h2⟩)]
            · rename_i h2
              congr 1
              rw [decide_eq_decide]
              constructor
              · intro h3; exact ⟨h1, .inr h3⟩
              · rintro ⟨_, h3 | h3⟩
                · exact absurd h3 h2
                · exact h3
          · rename_i h1
            rw [decide_eq_false (show ¬ (_ ∧ _) from fun h3 => h1 h3.1)]
        rw [key2, key]
        clear key key2 ha hb hx hc hc' hsk
        · rw [he]
          clear he
          have hih := fun (n : Nat) (h : n < (s.data.toList.drop i).length) => ih (i + n + 1) k (by omega) (by omega) (by omega)
          clear ih
          generalize (s.data.toList.drop i).length = L at *
          generalize hnn : nlAt (s.data.toList.drop i) = n at *
          clear hnn
          by_cases hn : n < L
          · rw [if_pos hn, if_pos hn, if_neg (by omega)]
            have e1 : wrap64 ((i : Int) + (n : Int)) = (i : Int) + (n : Int) := wrap_small (by omega) (by omega)
            have e2 : wrap64 ((i : Int) + (n : Int) + 1) = ((i + n + 1 : Nat) : Int) := by
              rw [wrap_small (by omega) (by omega)]; omega
            rw [e1, e2, hih n hn, List.drop_drop, show i + n + 1 = i + (n + 1) by omega, Nat.add_assoc]
          · rw [if_neg hn, if_neg hn, if_pos (by omega)]
            congr 1
            omega
      · have hc' : (s.data.toList[i] == 37) = false := by
          rw [beq_eq_false_iff_ne]; intro e; apply hc; rw [e]; rfl
        rw [if_neg hc, ← bt_get s i hlt, cls_get s i hlt (by omega)]
        simp only [Option.bind_some]
        have hr : skipG false (s.data.toList[i] :: s.data.toList.drop (i + 1)) = if clsOf (s.data.toList[i]).toNat == 1 then 1 + skipG false (s.data.toList.drop (i + 1)) else 0 := by
          rw [skipG, hc']; rfl
        rw [hr]
        by_cases h1 : clsOf (s.data.toList[i]).toNat = 1
        · rw [if_pos h1, if_pos (by simpa using h1), wrap_small (by omega) (by omega)]
          have := ih (i + 1) k (by omega) (by omega) (by omega)
          rw [show ((i : Int) + 1) = ((i + 1 : Nat) : Int) by omega, this]
          congr 1
          omega
        · rw [if_neg h1, if_neg (by simpa using h1)]
          rfl
    · simp only [lex_Skip.l0]
      rw [if_neg (by omega), List.drop_of_length_le (by rw [← size_list]; omega)]
      simp [skipG]
/-- What Skip tells. -/
def skipN (s : ByteArray) (a : Int) : Nat := placeN s a + skipG false (s.data.toList.drop (placeN s a))
theorem skipN_le (s : ByteArray) (a : Int) : skipN s a ≤ s.size := by
  have h1 := skipG_le (s.data.toList.drop (placeN s a)) false
  have h2 := placeN_le s a
  rw [List.length_drop, ← size_list] at h1
  unfold skipN; omega
theorem skip_eq (s : ByteArray) (hs : s.size < 4611686018427387904) (a : Int) {k : Nat} (hk : 2 * s.size + 4 ≤ k) : lex_Skip.f k s a = some (skipN s a : Int) := by
  unfold lex_Skip.f
  rw [place_eq]
  simp only [Option.bind_some]
  rw [skip_loop s hs s.size _ k (by omega) (placeN_le s a) hk]
  rfl
end Go.Proofs.YtfdikkdbmlcjiaaGreatDoor.M
end
