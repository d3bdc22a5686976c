/- A text's error, but for its being too short, is the same one at the same place with anything behind it, and what stands ahead of the place may be read, or is too short; for texts of at most 300 bytes. -/
/- Packed by this session's program hbpack.py out of this claim's own texts (Q7, Wr, Tn, Ts, Tu, Pq, Ps, Tx, Ty, Ta, Pd, Tb, Tc, Td, PureTokErrors, LawTokErrors): the same declarations, without those that the claim does not use. -/
import Derived.Test.YtfdikkdbmlcjiaaGreatDoorPkTokErrors3
import Derived.HandedShaped
import Derived.ProofKit
import Derived.LaidMore
import Derived.Lay
import Derived.Stop.Joined
import Derived.Shelf.Vars
import Derived.Stop.LaidErr
import Derived.Test.YtfdikkdbmlcjiaaGreatDoorRows
import Derived.Lib.ParseIntBCases
import Derived.Laws.BitsLemmas
import Derived.WalkKit
import Derived.OpenShut
import Derived.ShutString
import Derived.ChangeOld
import Derived.Below
import Derived.SizedLaws
import Derived.SevenTiedAt
import Derived.Test.YtfdikkdbmlcjiaaGreatDoorCards
import Derived.Test.YtfdikkdbmlcjiaaGreatDoorTie
section
/- Laid by this session's program hbprint.py out of the translation: the function hornbook/hornbooklaw04.TokErrors and its contract. -/
namespace Go.Proofs.YtfdikkdbmlcjiaaGreatDoor.M
open Go.RowKit Go.Proofs.YtfdikkdbmlcjiaaGreatDoorW.PrintWords Go.Proofs.YtfdikkdbmlcjiaaGreatDoorW.PrintLast Go.Proofs.YtfdikkdbmlcjiaaGreatDoorW.PrintMore
attribute [local go_sem] max2_int min2_int max_two min_two max_three min_three max_four min_four
set_option linter.unusedVariables false
set_option linter.unusedSimpArgs false
mutual
def hornbooklaw04_TokErrors.j0 : Nat → ByteArray → ByteArray → Bool → Bool → Option (Bool)
  | 0, _, _, _, _ => none
  | k + 1, x0, x1, x5, x23 => if x23 = true then (some x5) else ((tok_All.f k x0).bind fun bt300 => (if bt300.2.2 = 0 then (hornbooklaw04_TokErrors.j1 k x0 x1 x5 bt300.2.1 bt300.2.2 true) else (hornbooklaw04_TokErrors.j1 k x0 x1 x5 bt300.2.1 bt300.2.2 (bt300.2.2 == 2))))
def hornbooklaw04_TokErrors.j1 : Nat → ByteArray → ByteArray → Bool → Int → Int → Bool → Option (Bool)
  | 0, _, _, _, _, _, _ => none
  | k + 1, x0, x1, x5, x7, x8, x36 => if x36 = true then (some x5) else (if x0.size + 1 ≤ 9223372036854775807 then (if (x0 ++ (⟨#[10]⟩ : ByteArray)).size + x1.size ≤ 9223372036854775807 then ((tok_All.f k ((x0 ++ (⟨#[10]⟩ : ByteArray)) ++ x1)).bind fun bt305 => (if x7 < 0 then (some false) else (if x7 > (x0.size : Int) then (some false) else (if 0 ≤ x7 then (if x7 ≤ (x0.size : Int) then ((tok_All.f k (x0.extract 0 (x7 : Int).toNat)).bind fun bt310 => (if x5 = true then (if bt305.2.2 = x8 then (if bt305.2.1 = x7 then (if bt310.2.2 = 0 then (some true) else (if bt310.2.2 = 2 then (some true) else (some (x8 == 4)))) else (some false)) else (some false)) else (some false))) else (none)) else (none))))) else (none)) else (none))
end
def hornbooklaw04_TokErrors.f (k : Nat) (a0 : ByteArray) (a1 : ByteArray) : Option (Bool) := (hornbooklaw04_awake.f k).bind fun t299 => (if (a0.size : Int) > 300 then (hornbooklaw04_TokErrors.j0 k a0 a1 t299 true) else (hornbooklaw04_TokErrors.j0 k a0 a1 t299 (decide ((a1.size : Int) > 300))))
set_option maxHeartbeats 8000000 in
set_option maxRecDepth 100000 in
theorem hornbooklaw04_TokErrors.calls (k : Nat) (a0 : ByteArray) (a1 : ByteArray) (r : Bool) (w : World) (hG : GW w) (h : hornbooklaw04_TokErrors.f k a0 a1 = some r) :
    Calls Tryz.prog 7 #[.string a0, .string a1] w fun e w' => e = .returned (.bool r) ∧ Below w.heap.size w w' := by
  have HG := Aside0.mk hG
  clear hG
  have HB := Aside0.mk (Below.refl w.heap.size w)
  have H : ((hornbooklaw04_awake.f k).bind fun t299 => (if (a0.size : Int) > 300 then (hornbooklaw04_TokErrors.j0 k a0 a1 t299 true) else (hornbooklaw04_TokErrors.j0 k a0 a1 t299 (decide ((a1.size : Int) > 300))))) = some r := h
  clear h
  replace H := Option.bind_eq_some_iff.mp H
  obtain ⟨t299, A30, H⟩ := H
  replace H : (if (a0.size : Int) > 300 then (hornbooklaw04_TokErrors.j0 k a0 a1 t299 true) else (hornbooklaw04_TokErrors.j0 k a0 a1 t299 (decide ((a1.size : Int) > 300)))) = some r := H
  have A3 := Aside0.mk A30
  clear A30
  have HC4 := Aside0.mk H
  clear H
  go_enter Tryz.func7, Tryz.ntmps7
  go_upto_region 2 with (first | ((with_reducible refine gate_callee (f := 8) rfl ?_); refine goesL_ (some 15) rfl rfl Tryz.func8 (by kernel_rfl) rfl #[] rfl (by (try simp only [List.map_toArray, List.map_cons, List.map_nil]); first | done | rfl | (simp only [List.length_drop, List.length_take]; rfl)) ?_; (with_reducible refine (hornbooklaw04_awake.calls k  t299 _ ?side1 A3.out).mono ?_); (case side1 => exact GW.below (by repeat (first | (with_reducible first | exact HB.out | apply below_alloc | apply pw_below_drewN | apply below_drew1) | exact HB.out)) HG.out); rintro e w5 ⟨rfl, hb⟩; refine ⟨_, rfl, ?_⟩; have n0_ := Aside0.mk (below_step (by repeat (first | (with_reducible first | exact HB.out | apply below_alloc | apply pw_below_drewN | apply below_drew1) | exact HB.out)) hb); clear HB; have HB := n0_; clear n0_; (try clear hb); (try clear hb2); (try clear hk); (try clear hi)))
  (try simp only [Act.put, List.setIfInBounds_toArray, List.set_cons_zero, List.set_cons_succ])
  go_cut [23] (fun v23 wc => ∃ (kq : Nat) (x23_3 : Bool), v23 = .bool x23_3 ∧ Aside0 (hornbooklaw04_TokErrors.j0 kq a0 a1 t299 x23_3 = some r) ∧ Aside0 (kq ≤ k) ∧ Aside0 (Below w.heap.size w wc))
  case first =>
    have H := HC4.out
    clear HC4
    by_cases c6 : (a0.size : Int) > 300
    · rw [if_pos c6] at H
      have c6b0 : decide (300 < (a0.size : Int)) = true := decide_eq_true c6
      have c6b1 : decide (300 < a0.size) = true := decide_eq_true (by omega)
      clear c6
      (first | rw [c6b0] | (simp only [i64_w, i32_w]; rw [c6b0]) | skip)
      have H' := Aside0.mk H
      clear H
      go_wp2
      go_meet
      case rel => exact ⟨_, (true), (by first | rfl | (simp; done) | (simp [*]; done)), H', ⟨by first | omega | exact Nat.le_refl _⟩, ⟨by repeat (first | (with_reducible first | exact HB.out | apply below_alloc | apply pw_below_drewN | apply below_drew1) | exact HB.out)⟩⟩
    · rw [if_neg c6] at H
      have c6b0 : decide (300 < (a0.size : Int)) = false := decide_eq_false c6
      have c6b1 : decide (300 < a0.size) = false := decide_eq_false (by omega)
      clear c6
      (first | rw [c6b0] | (simp only [i64_w, i32_w]; rw [c6b0]) | skip)
      have H' := Aside0.mk H
      clear H
      go_wp2
      go_meet
      case rel => exact ⟨_, (decide ((a1.size : Int) > 300)), (by first | rfl | (simp; done) | (simp [*]; done)), H', ⟨by first | omega | exact Nat.le_refl _⟩, ⟨by repeat (first | (with_reducible first | exact HB.out | apply below_alloc | apply pw_below_drewN | apply below_drew1) | exact HB.out)⟩⟩
  case rest =>
    clear HC4
    try clear p2
    try clear c6
    try clear c6b0
    try clear c6b1
    obtain ⟨kq, x23_3, rfl, HA, HJ3, HB⟩ := hcut
    cases kq with
    | zero => exact absurd HA.out (by simp [hornbooklaw04_TokErrors.j0])
    | succ kj3 =>
      have H := HA.out
      clear HA
      simp only [hornbooklaw04_TokErrors.j0] at H
      by_cases c7 : x23_3 = true
      · subst c7
        have H1 : (some t299) = some r := by rw [if_pos rfl] at H; exact H
        clear H
        have H := H1
        clear H1
        obtain rfl := Option.some.inj H
        go_wp2
        go_ret
        exact ⟨by first | rfl | (simp [errW_none, errW_some] <;> rfl) | (simp [*, errW_none, errW_some] <;> rfl), by repeat (first | (with_reducible first | exact HB.out | apply below_alloc | apply pw_below_drewN | apply below_drew1) | exact HB.out)⟩
      · replace c7 := Bool.eq_false_iff.mpr c7
        subst c7
        have H1 : ((tok_All.f kj3 a0).bind fun bt300 => (if bt300.2.2 = 0 then (hornbooklaw04_TokErrors.j1 kj3 a0 a1 t299 bt300.2.1 bt300.2.2 true) else (hornbooklaw04_TokErrors.j1 kj3 a0 a1 t299 bt300.2.1 bt300.2.2 (bt300.2.2 == 2)))) = some r := by rw [if_neg (show ¬ (false = true) by decide)] at H; exact H
        clear H
        have H := H1
        clear H1
        replace H := Option.bind_eq_some_iff.mp H
        obtain ⟨⟨t300, t301, t302⟩, A80, H⟩ := H
        replace H : (if t302 = 0 then (hornbooklaw04_TokErrors.j1 kj3 a0 a1 t299 t301 t302 true) else (hornbooklaw04_TokErrors.j1 kj3 a0 a1 t299 t301 t302 (t302 == 2))) = some r := H
        have A8 := Aside0.mk A80
        clear A80
        have HC9 := Aside0.mk H
        clear H
        go_upto_region 5 with (first | ((with_reducible refine gate_callee (f := 9) rfl ?_); refine goesL_ (some 27) rfl rfl Tryz.func9 (by kernel_rfl) rfl #[.string a0] rfl (by (try simp only [List.map_toArray, List.map_cons, List.map_nil]); first | done | rfl | (simp only [List.length_drop, List.length_take]; rfl)) ?_; (with_reducible refine (tok_All.calls kj3 a0 t300 t301 t302 _ ?side1 A8.out).mono ?_); (case side1 => exact GW.below (by repeat (first | (with_reducible first | exact HB.out | apply below_alloc | apply pw_below_drewN | apply below_drew1) | exact HB.out)) HG.out); rintro e w10 ⟨v303, rfl, ho0, hb⟩; refine ⟨_, rfl, ?_⟩; have n0_ := Aside0.mk (Kd.R_lower ho0 (below_size (by repeat (first | (with_reducible first | exact HB.out | apply below_alloc | apply pw_below_drewN | apply below_drew1) | exact HB.out)))); have n1_ := Aside0.mk (below_step (by repeat (first | (with_reducible first | exact HB.out | apply below_alloc | apply pw_below_drewN | apply below_drew1) | exact HB.out)) hb); clear HB; have HO304 := n0_; have HB := n1_; clear n0_ n1_; (try clear hb); (try clear hb2); (try clear hk); (try clear hi); (try clear ho0)))
        (try simp only [Act.put, List.setIfInBounds_toArray, List.set_cons_zero, List.set_cons_succ])
        go_cut [36] (fun v36 wc => ∃ (kq : Nat) (x36_8 : Bool), v36 = .bool x36_8 ∧ Aside0 (hornbooklaw04_TokErrors.j1 kq a0 a1 t299 t301 t302 x36_8 = some r) ∧ Aside0 (kq ≤ kj3) ∧ Aside0 (Below w.heap.size w wc))
        case first =>
          have H := HC9.out
          clear HC9
          by_cases c11 : t302 = 0
          · rw [if_pos c11] at H
            have c11b0 : (t302 == 0) = true := beq_iff_eq.mpr c11
            have c11b1 : (t302 != 0) = false := bne_eq_false_iff_eq.mpr c11
            clear c11
            (first | rw [c11b0] | (simp only [i64_w, i32_w]; rw [c11b0]) | skip)
            have H' := Aside0.mk H
            clear H
            go_wp2
            go_meet
            case rel => exact ⟨_, (true), (by first | rfl | (simp; done) | (simp [*]; done)), H', ⟨by have := HJ3.out; first | omega | exact Nat.le_refl _⟩, ⟨by repeat (first | (with_reducible first | exact HB.out | apply below_alloc | apply pw_below_drewN | apply below_drew1) | exact HB.out)⟩⟩
          · rw [if_neg c11] at H
            have c11b0 : (t302 == 0) = false := beq_eq_false_iff_ne.mpr c11
            have c11b1 : (t302 != 0) = true := bne_iff_ne.mpr c11
            (first | rw [c11b0] | (simp only [i64_w, i32_w]; rw [c11b0]) | skip)
            have H' := Aside0.mk H
            clear H
            go_wp2
            go_meet
            case rel => exact ⟨_, ((t302 == 2)), (by first | rfl | (simp; done) | (simp [*]; done)), H', ⟨by have := HJ3.out; first | omega | exact Nat.le_refl _⟩, ⟨by repeat (first | (with_reducible first | exact HB.out | apply below_alloc | apply pw_below_drewN | apply below_drew1) | exact HB.out)⟩⟩
        case rest =>
          clear HC9
          try clear c1
          try clear p2
          try clear c6
          try clear c6b0
          try clear c6b1
          try clear c7
          try clear c8
          try clear c9
          try clear c11
          try clear c11b0
          try clear c11b1
          try clear p2
          obtain ⟨kq, x36_8, rfl, HA, HJ8, HB⟩ := hcut
          cases kq with
          | zero => exact absurd HA.out (by simp [hornbooklaw04_TokErrors.j1])
          | succ kj8 =>
            have H := HA.out
            clear HA
            simp only [hornbooklaw04_TokErrors.j1] at H
            by_cases c12 : x36_8 = true
            · subst c12
              have H1 : (some t299) = some r := by rw [if_pos rfl] at H; exact H
              clear H
              have H := H1
              clear H1
              obtain rfl := Option.some.inj H
              go_wp2
              go_ret
              exact ⟨by first | rfl | (simp [errW_none, errW_some] <;> rfl) | (simp [*, errW_none, errW_some] <;> rfl), by repeat (first | (with_reducible first | exact HB.out | apply below_alloc | apply pw_below_drewN | apply below_drew1) | exact HB.out)⟩
            · replace c12 := Bool.eq_false_iff.mpr c12
              subst c12
              have H1 : (if a0.size + 1 ≤ 9223372036854775807 then (if (a0 ++ (⟨#[10]⟩ : ByteArray)).size + a1.size ≤ 9223372036854775807 then ((tok_All.f kj8 ((a0 ++ (⟨#[10]⟩ : ByteArray)) ++ a1)).bind fun bt305 => (if t301 < 0 then (some false) else (if t301 > (a0.size : Int) then (some false) else (if 0 ≤ t301 then (if t301 ≤ (a0.size : Int) then ((tok_All.f kj8 (a0.extract 0 (t301 : Int).toNat)).bind fun bt310 => (if t299 = true then (if bt305.2.2 = t302 then (if bt305.2.1 = t301 then (if bt310.2.2 = 0 then (some true) else (if bt310.2.2 = 2 then (some true) else (some (t302 == 4)))) else (some false)) else (some false)) else (some false))) else (none)) else (none))))) else (none)) else (none)) = some r := by rw [if_neg (show ¬ (false = true) by decide)] at H; exact H
              clear H
              have H := H1
              clear H1
              by_cases c13 : a0.size + 1 ≤ 9223372036854775807
              · rw [if_pos c13] at H
                have c13b0 := eq_true c13
                have c13b1 : decide (a0.size + 1 ≤ 9223372036854775807) = true := decide_eq_true c13
                try have c13b2 : (9223372036854775807 < a0.size + 1) = False := eq_false (Nat.not_lt.2 c13)
                by_cases c14 : (a0 ++ (⟨#[10]⟩ : ByteArray)).size + a1.size ≤ 9223372036854775807
                · rw [if_pos c14] at H
                  have c14b0 := eq_true c14
                  have c14b1 : decide ((a0 ++ (⟨#[10]⟩ : ByteArray)).size + a1.size ≤ 9223372036854775807) = true := decide_eq_true c14
                  try have c14b2 : (9223372036854775807 < (a0 ++ (⟨#[10]⟩ : ByteArray)).size + a1.size) = False := eq_false (Nat.not_lt.2 c14)
                  try have c14b9 : (9223372036854775807 < (a0.size + 1) + a1.size) = False := eq_false (Nat.not_lt.2 (by have h_ := c14; (repeat rw [ByteArray.size_append] at h_); exact h_))
                  replace H := Option.bind_eq_some_iff.mp H
                  obtain ⟨⟨t305, t306, t307⟩, A150, H⟩ := H
                  replace H : (if t301 < 0 then (some false) else (if t301 > (a0.size : Int) then (some false) else (if 0 ≤ t301 then (if t301 ≤ (a0.size : Int) then ((tok_All.f kj8 (a0.extract 0 (t301 : Int).toNat)).bind fun bt310 => (if t299 = true then (if t307 = t302 then (if t306 = t301 then (if bt310.2.2 = 0 then (some true) else (if bt310.2.2 = 2 then (some true) else (some (t302 == 4)))) else (some false)) else (some false)) else (some false))) else (none)) else (none)))) = some r := H
                  have A15 := Aside0.mk A150
                  clear A150
                  by_cases c16 : t301 < 0
                  · rw [if_pos c16] at H
                    have c16b0 : decide (t301 < 0) = true := decide_eq_true c16
                    clear c16
                    obtain rfl := Option.some.inj H
                    go_wp2_with (first | ((with_reducible refine gate_callee (f := 9) rfl ?_); refine goesL_ (some 43) rfl rfl Tryz.func9 (by kernel_rfl) rfl #[.string ((a0 ++ (⟨#[10]⟩ : ByteArray)) ++ a1)] rfl (by (try simp only [List.map_toArray, List.map_cons, List.map_nil]); first | done | rfl | (simp only [List.length_drop, List.length_take]; rfl)) ?_; (with_reducible refine (tok_All.calls kj8 ((a0 ++ (⟨#[10]⟩ : ByteArray)) ++ a1) t305 t306 t307 _ ?side1 A15.out).mono ?_); (case side1 => exact GW.below (by repeat (first | (with_reducible first | exact HB.out | apply below_alloc | apply pw_below_drewN | apply below_drew1) | exact HB.out)) HG.out); rintro e w17 ⟨v308, rfl, ho0, hb⟩; refine ⟨_, rfl, ?_⟩; have n0_ := Aside0.mk (Kd.R_lower ho0 (below_size (by repeat (first | (with_reducible first | exact HB.out | apply below_alloc | apply pw_below_drewN | apply below_drew1) | exact HB.out)))); have n1_ := Aside0.mk (below_step (by repeat (first | (with_reducible first | exact HB.out | apply below_alloc | apply pw_below_drewN | apply below_drew1) | exact HB.out)) hb); clear HB; have HO309 := n0_; have HB := n1_; clear n0_ n1_; (try clear hb); (try clear hb2); (try clear hk); (try clear hi); (try clear ho0)))
                    go_ret
                    exact ⟨by first | rfl | (simp [errW_none, errW_some] <;> rfl) | (simp [*, errW_none, errW_some] <;> rfl), by repeat (first | (with_reducible first | exact HB.out | apply below_alloc | apply pw_below_drewN | apply below_drew1) | exact HB.out)⟩
                  · rw [if_neg c16] at H
                    have c16b0 : decide (t301 < 0) = false := decide_eq_false c16
                    clear c16
                    by_cases c18 : t301 > (a0.size : Int)
                    · rw [if_pos c18] at H
                      have c18b0 : decide ((a0.size : Int) < t301) = true := decide_eq_true c18
                      clear c18
                      obtain rfl := Option.some.inj H
                      go_wp2_with (first | ((with_reducible refine gate_callee (f := 9) rfl ?_); refine goesL_ (some 43) rfl rfl Tryz.func9 (by kernel_rfl) rfl #[.string ((a0 ++ (⟨#[10]⟩ : ByteArray)) ++ a1)] rfl (by (try simp only [List.map_toArray, List.map_cons, List.map_nil]); first | done | rfl | (simp only [List.length_drop, List.length_take]; rfl)) ?_; (with_reducible refine (tok_All.calls kj8 ((a0 ++ (⟨#[10]⟩ : ByteArray)) ++ a1) t305 t306 t307 _ ?side1 A15.out).mono ?_); (case side1 => exact GW.below (by repeat (first | (with_reducible first | exact HB.out | apply below_alloc | apply pw_below_drewN | apply below_drew1) | exact HB.out)) HG.out); rintro e w19 ⟨v308, rfl, ho0, hb⟩; refine ⟨_, rfl, ?_⟩; have n0_ := Aside0.mk (Kd.R_lower ho0 (below_size (by repeat (first | (with_reducible first | exact HB.out | apply below_alloc | apply pw_below_drewN | apply below_drew1) | exact HB.out)))); have n1_ := Aside0.mk (below_step (by repeat (first | (with_reducible first | exact HB.out | apply below_alloc | apply pw_below_drewN | apply below_drew1) | exact HB.out)) hb); clear HB; have HO309 := n0_; have HB := n1_; clear n0_ n1_; (try clear hb); (try clear hb2); (try clear hk); (try clear hi); (try clear ho0)))
                      go_ret
                      exact ⟨by first | rfl | (simp [errW_none, errW_some] <;> rfl) | (simp [*, errW_none, errW_some] <;> rfl), by repeat (first | (with_reducible first | exact HB.out | apply below_alloc | apply pw_below_drewN | apply below_drew1) | exact HB.out)⟩
                    · rw [if_neg c18] at H
                      have c18b0 : decide ((a0.size : Int) < t301) = false := decide_eq_false c18
                      clear c18
                      by_cases c20 : 0 ≤ t301
                      · rw [if_pos c20] at H
                        have c20b0 := eq_true c20
                        have c20b1 : decide (0 ≤ t301) = true := decide_eq_true c20
                        clear c20
                        by_cases c21 : t301 ≤ (a0.size : Int)
                        · rw [if_pos c21] at H
                          have c21b0 := eq_true c21
                          have c21b1 : decide (t301 ≤ (a0.size : Int)) = true := decide_eq_true c21
                          clear c21
                          replace H := Option.bind_eq_some_iff.mp H
                          obtain ⟨⟨t310, t311, t312⟩, A220, H⟩ := H
                          replace H : (if t299 = true then (if t307 = t302 then (if t306 = t301 then (if t312 = 0 then (some true) else (if t312 = 2 then (some true) else (some (t302 == 4)))) else (some false)) else (some false)) else (some false)) = some r := H
                          have A22 := Aside0.mk A220
                          clear A220
                          by_cases c23 : t299 = true
                          · subst c23
                            have H1 : (if t307 = t302 then (if t306 = t301 then (if t312 = 0 then (some true) else (if t312 = 2 then (some true) else (some (t302 == 4)))) else (some false)) else (some false)) = some r := by rw [if_pos rfl] at H; exact H
                            clear H
                            have H := H1
                            clear H1
                            by_cases c24 : t307 = t302
                            · rw [if_pos c24] at H
                              have c24b0 : (t307 == t302) = true := beq_iff_eq.mpr c24
                              have c24b1 : (t307 != t302) = false := bne_eq_false_iff_eq.mpr c24
                              clear c24
                              by_cases c25 : t306 = t301
                              · rw [if_pos c25] at H
                                have c25b0 : (t306 == t301) = true := beq_iff_eq.mpr c25
                                have c25b1 : (t306 != t301) = false := bne_eq_false_iff_eq.mpr c25
                                clear c25
                                by_cases c26 : t312 = 0
                                · rw [if_pos c26] at H
                                  have c26b0 : (t312 == 0) = true := beq_iff_eq.mpr c26
                                  have c26b1 : (t312 != 0) = false := bne_eq_false_iff_eq.mpr c26
                                  clear c26
                                  obtain rfl := Option.some.inj H
                                  go_wp2_with (first | ((with_reducible refine gate_callee (f := 9) rfl ?_); refine goesL_ (some 43) rfl rfl Tryz.func9 (by kernel_rfl) rfl #[.string ((a0 ++ (⟨#[10]⟩ : ByteArray)) ++ a1)] rfl (by (try simp only [List.map_toArray, List.map_cons, List.map_nil]); first | done | rfl | (simp only [List.length_drop, List.length_take]; rfl)) ?_; (with_reducible refine (tok_All.calls kj8 ((a0 ++ (⟨#[10]⟩ : ByteArray)) ++ a1) t305 t306 t307 _ ?side1 A15.out).mono ?_); (case side1 => exact GW.below (by repeat (first | (with_reducible first | exact HB.out | apply below_alloc | apply pw_below_drewN | apply below_drew1) | exact HB.out)) HG.out); rintro e w27 ⟨v308, rfl, ho0, hb⟩; refine ⟨_, rfl, ?_⟩; have n0_ := Aside0.mk (Kd.R_lower ho0 (below_size (by repeat (first | (with_reducible first | exact HB.out | apply below_alloc | apply pw_below_drewN | apply below_drew1) | exact HB.out)))); have n1_ := Aside0.mk (below_step (by repeat (first | (with_reducible first | exact HB.out | apply below_alloc | apply pw_below_drewN | apply below_drew1) | exact HB.out)) hb); clear HB; have HO309 := n0_; have HB := n1_; clear n0_ n1_; (try clear hb); (try clear hb2); (try clear hk); (try clear hi); (try clear ho0)) | ((with_reducible refine gate_callee (f := 9) rfl ?_); refine goesL_ (some 59) rfl rfl Tryz.func9 (by kernel_rfl) rfl #[.string (a0.extract 0 (t301 : Int).toNat)] rfl (by (try simp only [List.map_toArray, List.map_cons, List.map_nil]); first | done | rfl | (simp only [List.length_drop, List.length_take]; rfl)) ?_; (with_reducible refine (tok_All.calls kj8 (a0.extract 0 (t301 : Int).toNat) t310 t311 t312 _ ?side1 A22.out).mono ?_); (case side1 => exact GW.below (by repeat (first | (with_reducible first | exact HB.out | apply below_alloc | apply pw_below_drewN | apply below_drew1) | exact HB.out)) HG.out); rintro e w28 ⟨v313, rfl, ho0, hb⟩; refine ⟨_, rfl, ?_⟩; have n0_ := Aside0.mk (Kd.R_elder' (by (with_reducible repeat (first | apply Kd.R_alloc | apply Kd.R_drewN | apply Kd.R_drew)); exact HO309.out) (Kd.R_base ho0) hb); have n1_ := Aside0.mk (Kd.R_lower (Kd.R_new' ho0 (Kd.R_lt (by (with_reducible repeat (first | apply Kd.R_alloc | apply Kd.R_drewN | apply Kd.R_drew)); exact HO309.out))) (below_size (by repeat (first | (with_reducible first | exact HB.out | apply below_alloc | apply pw_below_drewN | apply below_drew1) | exact HB.out)))); have n2_ := Aside0.mk (below_step (by repeat (first | (with_reducible first | exact HB.out | apply below_alloc | apply pw_below_drewN | apply below_drew1) | exact HB.out)) hb); clear HO309; clear HB; have HO309 := n0_; have HO314 := n1_; have HB := n2_; clear n0_ n1_ n2_; (try clear hb); (try clear hb2); (try clear hk); (try clear hi); (try clear ho0)))
                                  go_ret
                                  exact ⟨by first | rfl | (simp [errW_none, errW_some] <;> rfl) | (simp [*, errW_none, errW_some] <;> rfl), by repeat (first | (with_reducible first | exact HB.out | apply below_alloc | apply pw_below_drewN | apply below_drew1) | exact HB.out)⟩
                                · rw [if_neg c26] at H
                                  have c26b0 : (t312 == 0) = false := beq_eq_false_iff_ne.mpr c26
                                  have c26b1 : (t312 != 0) = true := bne_iff_ne.mpr c26
                                  by_cases c29 : t312 = 2
                                  · rw [if_pos c29] at H
                                    have c29b0 : (t312 == 2) = true := beq_iff_eq.mpr c29
                                    have c29b1 : (t312 != 2) = false := bne_eq_false_iff_eq.mpr c29
                                    clear c29
                                    obtain rfl := Option.some.inj H
                                    go_wp2_with (first | ((with_reducible refine gate_callee (f := 9) rfl ?_); refine goesL_ (some 43) rfl rfl Tryz.func9 (by kernel_rfl) rfl #[.string ((a0 ++ (⟨#[10]⟩ : ByteArray)) ++ a1)] rfl (by (try simp only [List.map_toArray, List.map_cons, List.map_nil]); first | done | rfl | (simp only [List.length_drop, List.length_take]; rfl)) ?_; (with_reducible refine (tok_All.calls kj8 ((a0 ++ (⟨#[10]⟩ : ByteArray)) ++ a1) t305 t306 t307 _ ?side1 A15.out).mono ?_); (case side1 => exact GW.below (by repeat (first | (with_reducible first | exact HB.out | apply below_alloc | apply pw_below_drewN | apply below_drew1) | exact HB.out)) HG.out); rintro e w30 ⟨v308, rfl, ho0, hb⟩; refine ⟨_, rfl, ?_⟩; have n0_ := Aside0.mk (Kd.R_lower ho0 (below_size (by repeat (first | (with_reducible first | exact HB.out | apply below_alloc | apply pw_below_drewN | apply below_drew1) | exact HB.out)))); have n1_ := Aside0.mk (below_step (by repeat (first | (with_reducible first | exact HB.out | apply below_alloc | apply pw_below_drewN | apply below_drew1) | exact HB.out)) hb); clear HB; have HO309 := n0_; have HB := n1_; clear n0_ n1_; (try clear hb); (try clear hb2); (try clear hk); (try clear hi); (try clear ho0)) | ((with_reducible refine gate_callee (f := 9) rfl ?_); refine goesL_ (some 59) rfl rfl Tryz.func9 (by kernel_rfl) rfl #[.string (a0.extract 0 (t301 : Int).toNat)] rfl (by (try simp only [List.map_toArray, List.map_cons, List.map_nil]); first | done | rfl | (simp only [List.length_drop, List.length_take]; rfl)) ?_; (with_reducible refine (tok_All.calls kj8 (a0.extract 0 (t301 : Int).toNat) t310 t311 t312 _ ?side1 A22.out).mono ?_); (case side1 => exact GW.below (by repeat (first | (with_reducible first | exact HB.out | apply below_alloc | apply pw_below_drewN | apply below_drew1) | exact HB.out)) HG.out); rintro e w31 ⟨v313, rfl, ho0, hb⟩; refine ⟨_, rfl, ?_⟩; have n0_ := Aside0.mk (Kd.R_elder' (by (with_reducible repeat (first | apply Kd.R_alloc | apply Kd.R_drewN | apply Kd.R_drew)); exact HO309.out) (Kd.R_base ho0) hb); have n1_ := Aside0.mk (Kd.R_lower (Kd.R_new' ho0 (Kd.R_lt (by (with_reducible repeat (first | apply Kd.R_alloc | apply Kd.R_drewN | apply Kd.R_drew)); exact HO309.out))) (below_size (by repeat (first | (with_reducible first | exact HB.out | apply below_alloc | apply pw_below_drewN | apply below_drew1) | exact HB.out)))); have n2_ := Aside0.mk (below_step (by repeat (first | (with_reducible first | exact HB.out | apply below_alloc | apply pw_below_drewN | apply below_drew1) | exact HB.out)) hb); clear HO309; clear HB; have HO309 := n0_; have HO314 := n1_; have HB := n2_; clear n0_ n1_ n2_; (try clear hb); (try clear hb2); (try clear hk); (try clear hi); (try clear ho0)))
                                    go_ret
                                    exact ⟨by first | rfl | (simp [errW_none, errW_some] <;> rfl) | (simp [*, errW_none, errW_some] <;> rfl), by repeat (first | (with_reducible first | exact HB.out | apply below_alloc | apply pw_below_drewN | apply below_drew1) | exact HB.out)⟩
                                  · rw [if_neg c29] at H
                                    have c29b0 : (t312 == 2) = false := beq_eq_false_iff_ne.mpr c29
                                    have c29b1 : (t312 != 2) = true := bne_iff_ne.mpr c29
                                    obtain rfl := Option.some.inj H
                                    go_wp2_with (first | ((with_reducible refine gate_callee (f := 9) rfl ?_); refine goesL_ (some 43) rfl rfl Tryz.func9 (by kernel_rfl) rfl #[.string ((a0 ++ (⟨#[10]⟩ : ByteArray)) ++ a1)] rfl (by (try simp only [List.map_toArray, List.map_cons, List.map_nil]); first | done | rfl | (simp only [List.length_drop, List.length_take]; rfl)) ?_; (with_reducible refine (tok_All.calls kj8 ((a0 ++ (⟨#[10]⟩ : ByteArray)) ++ a1) t305 t306 t307 _ ?side1 A15.out).mono ?_); (case side1 => exact GW.below (by repeat (first | (with_reducible first | exact HB.out | apply below_alloc | apply pw_below_drewN | apply below_drew1) | exact HB.out)) HG.out); rintro e w32 ⟨v308, rfl, ho0, hb⟩; refine ⟨_, rfl, ?_⟩; have n0_ := Aside0.mk (Kd.R_lower ho0 (below_size (by repeat (first | (with_reducible first | exact HB.out | apply below_alloc | apply pw_below_drewN | apply below_drew1) | exact HB.out)))); have n1_ := Aside0.mk (below_step (by repeat (first | (with_reducible first | exact HB.out | apply below_alloc | apply pw_below_drewN | apply below_drew1) | exact HB.out)) hb); clear HB; have HO309 := n0_; have HB := n1_; clear n0_ n1_; (try clear hb); (try clear hb2); (try clear hk); (try clear hi); (try clear ho0)) | ((with_reducible refine gate_callee (f := 9) rfl ?_); refine goesL_ (some 59) rfl rfl Tryz.func9 (by kernel_rfl) rfl #[.string (a0.extract 0 (t301 : Int).toNat)] rfl (by (try simp only [List.map_toArray, List.map_cons, List.map_nil]); first | done | rfl | (simp only [List.length_drop, List.length_take]; rfl)) ?_; (with_reducible refine (tok_All.calls kj8 (a0.extract 0 (t301 : Int).toNat) t310 t311 t312 _ ?side1 A22.out).mono ?_); (case side1 => exact GW.below (by repeat (first | (with_reducible first | exact HB.out | apply below_alloc | apply pw_below_drewN | apply below_drew1) | exact HB.out)) HG.out); rintro e w33 ⟨v313, rfl, ho0, hb⟩; refine ⟨_, rfl, ?_⟩; have n0_ := Aside0.mk (Kd.R_elder' (by (with_reducible repeat (first | apply Kd.R_alloc | apply Kd.R_drewN | apply Kd.R_drew)); exact HO309.out) (Kd.R_base ho0) hb); have n1_ := Aside0.mk (Kd.R_lower (Kd.R_new' ho0 (Kd.R_lt (by (with_reducible repeat (first | apply Kd.R_alloc | apply Kd.R_drewN | apply Kd.R_drew)); exact HO309.out))) (below_size (by repeat (first | (with_reducible first | exact HB.out | apply below_alloc | apply pw_below_drewN | apply below_drew1) | exact HB.out)))); have n2_ := Aside0.mk (below_step (by repeat (first | (with_reducible first | exact HB.out | apply below_alloc | apply pw_below_drewN | apply below_drew1) | exact HB.out)) hb); clear HO309; clear HB; have HO309 := n0_; have HO314 := n1_; have HB := n2_; clear n0_ n1_ n2_; (try clear hb); (try clear hb2); (try clear hk); (try clear hi); (try clear ho0)))
                                    go_ret
                                    exact ⟨by first | rfl | (simp [errW_none, errW_some] <;> rfl) | (simp [*, errW_none, errW_some] <;> rfl), by repeat (first | (with_reducible first | exact HB.out | apply below_alloc | apply pw_below_drewN | apply below_drew1) | exact HB.out)⟩
                              · rw [if_neg c25] at H
                                have c25b0 : (t306 == t301) = false := beq_eq_false_iff_ne.mpr c25
                                have c25b1 : (t306 != t301) = true := bne_iff_ne.mpr c25
                                obtain rfl := Option.some.inj H
                                go_wp2_with (first | ((with_reducible refine gate_callee (f := 9) rfl ?_); refine goesL_ (some 43) rfl rfl Tryz.func9 (by kernel_rfl) rfl #[.string ((a0 ++ (⟨#[10]⟩ : ByteArray)) ++ a1)] rfl (by (try simp only [List.map_toArray, List.map_cons, List.map_nil]); first | done | rfl | (simp only [List.length_drop, List.length_take]; rfl)) ?_; (with_reducible refine (tok_All.calls kj8 ((a0 ++ (⟨#[10]⟩ : ByteArray)) ++ a1) t305 t306 t307 _ ?side1 A15.out).mono ?_); (case side1 => exact GW.below (by repeat (first | (with_reducible first | exact HB.out | apply below_alloc | apply pw_below_drewN | apply below_drew1) | exact HB.out)) HG.out); rintro e w34 ⟨v308, rfl, ho0, hb⟩; refine ⟨_, rfl, ?_⟩; have n0_ := Aside0.mk (Kd.R_lower ho0 (below_size (by repeat (first | (with_reducible first | exact HB.out | apply below_alloc | apply pw_below_drewN | apply below_drew1) | exact HB.out)))); have n1_ := Aside0.mk (below_step (by repeat (first | (with_reducible first | exact HB.out | apply below_alloc | apply pw_below_drewN | apply below_drew1) | exact HB.out)) hb); clear HB; have HO309 := n0_; have HB := n1_; clear n0_ n1_; (try clear hb); (try clear hb2); (try clear hk); (try clear hi); (try clear ho0)) | ((with_reducible refine gate_callee (f := 9) rfl ?_); refine goesL_ (some 59) rfl rfl Tryz.func9 (by kernel_rfl) rfl #[.string (a0.extract 0 (t301 : Int).toNat)] rfl (by (try simp only [List.map_toArray, List.map_cons, List.map_nil]); first | done | rfl | (simp only [List.length_drop, List.length_take]; rfl)) ?_; (with_reducible refine (tok_All.calls kj8 (a0.extract 0 (t301 : Int).toNat) t310 t311 t312 _ ?side1 A22.out).mono ?_); (case side1 => exact GW.below (by repeat (first | (with_reducible first | exact HB.out | apply below_alloc | apply pw_below_drewN | apply below_drew1) | exact HB.out)) HG.out); rintro e w35 ⟨v313, rfl, ho0, hb⟩; refine ⟨_, rfl, ?_⟩; have n0_ := Aside0.mk (Kd.R_elder' (by (with_reducible repeat (first | apply Kd.R_alloc | apply Kd.R_drewN | apply Kd.R_drew)); exact HO309.out) (Kd.R_base ho0) hb); have n1_ := Aside0.mk (Kd.R_lower (Kd.R_new' ho0 (Kd.R_lt (by (with_reducible repeat (first | apply Kd.R_alloc | apply Kd.R_drewN | apply Kd.R_drew)); exact HO309.out))) (below_size (by repeat (first | (with_reducible first | exact HB.out | apply below_alloc | apply pw_below_drewN | apply below_drew1) | exact HB.out)))); have n2_ := Aside0.mk (below_step (by repeat (first | (with_reducible first | exact HB.out | apply below_alloc | apply pw_below_drewN | apply below_drew1) | exact HB.out)) hb); clear HO309; clear HB; have HO309 := n0_; have HO314 := n1_; have HB := n2_; clear n0_ n1_ n2_; (try clear hb); (try clear hb2); (try clear hk); (try clear hi); (try clear ho0)))
                                go_ret
                                exact ⟨by first | rfl | (simp [errW_none, errW_some] <;> rfl) | (simp [*, errW_none, errW_some] <;> rfl), by repeat (first | (with_reducible first | exact HB.out | apply below_alloc | apply pw_below_drewN | apply below_drew1) | exact HB.out)⟩
                            · rw [if_neg c24] at H
                              have c24b0 : (t307 == t302) = false := beq_eq_false_iff_ne.mpr c24
                              have c24b1 : (t307 != t302) = true := bne_iff_ne.mpr c24
                              obtain rfl := Option.some.inj H
                              go_wp2_with (first | ((with_reducible refine gate_callee (f := 9) rfl ?_); refine goesL_ (some 43) rfl rfl Tryz.func9 (by kernel_rfl) rfl #[.string ((a0 ++ (⟨#[10]⟩ : ByteArray)) ++ a1)] rfl (by (try simp only [List.map_toArray, List.map_cons, List.map_nil]); first | done | rfl | (simp only [List.length_drop, List.length_take]; rfl)) ?_; (with_reducible refine (tok_All.calls kj8 ((a0 ++ (⟨#[10]⟩ : ByteArray)) ++ a1) t305 t306 t307 _ ?side1 A15.out).mono ?_); (case side1 => exact GW.below (by repeat (first | (with_reducible first | exact HB.out | apply below_alloc | apply pw_below_drewN | apply below_drew1) | exact HB.out)) HG.out); rintro e w36 ⟨v308, rfl, ho0, hb⟩; refine ⟨_, rfl, ?_⟩; have n0_ := Aside0.mk (Kd.R_lower ho0 (below_size (by repeat (first | (with_reducible first | exact HB.out | apply below_alloc | apply pw_below_drewN | apply below_drew1) | exact HB.out)))); have n1_ := Aside0.mk (below_step (by repeat (first | (with_reducible first | exact HB.out | apply below_alloc | apply pw_below_drewN | apply below_drew1) | exact HB.out)) hb); clear HB; have HO309 := n0_; have HB := n1_; clear n0_ n1_; (try clear hb); (try clear hb2); (try clear hk); (try clear hi); (try clear ho0)) | ((with_reducible refine gate_callee (f := 9) rfl ?_); refine goesL_ (some 59) rfl rfl Tryz.func9 (by kernel_rfl) rfl #[.string (a0.extract 0 (t301 : Int).toNat)] rfl (by (try simp only [List.map_toArray, List.map_cons, List.map_nil]); first | done | rfl | (simp only [List.length_drop, List.length_take]; rfl)) ?_; (with_reducible refine (tok_All.calls kj8 (a0.extract 0 (t301 : Int).toNat) t310 t311 t312 _ ?side1 A22.out).mono ?_); (case side1 => exact GW.below (by repeat (first | (with_reducible first | exact HB.out | apply below_alloc | apply pw_below_drewN | apply below_drew1) | exact HB.out)) HG.out); rintro e w37 ⟨v313, rfl, ho0, hb⟩; refine ⟨_, rfl, ?_⟩; have n0_ := Aside0.mk (Kd.R_elder' (by (with_reducible repeat (first | apply Kd.R_alloc | apply Kd.R_drewN | apply Kd.R_drew)); exact HO309.out) (Kd.R_base ho0) hb); have n1_ := Aside0.mk (Kd.R_lower (Kd.R_new' ho0 (Kd.R_lt (by (with_reducible repeat (first | apply Kd.R_alloc | apply Kd.R_drewN | apply Kd.R_drew)); exact HO309.out))) (below_size (by repeat (first | (with_reducible first | exact HB.out | apply below_alloc | apply pw_below_drewN | apply below_drew1) | exact HB.out)))); have n2_ := Aside0.mk (below_step (by repeat (first | (with_reducible first | exact HB.out | apply below_alloc | apply pw_below_drewN | apply below_drew1) | exact HB.out)) hb); clear HO309; clear HB; have HO309 := n0_; have HO314 := n1_; have HB := n2_; clear n0_ n1_ n2_; (try clear hb); (try clear hb2); (try clear hk); (try clear hi); (try clear ho0)))
                              go_ret
                              exact ⟨by first | rfl | (simp [errW_none, errW_some] <;> rfl) | (simp [*, errW_none, errW_some] <;> rfl), by repeat (first | (with_reducible first | exact HB.out | apply below_alloc | apply pw_below_drewN | apply below_drew1) | exact HB.out)⟩
                          · replace c23 := Bool.eq_false_iff.mpr c23
                            subst c23
                            have H1 : (some false) = some r := by rw [if_neg (show ¬ (false = true) by decide)] at H; exact H
                            clear H
                            have H := H1
                            clear H1
                            obtain rfl := Option.some.inj H
                            go_wp2_with (first | ((with_reducible refine gate_callee (f := 9) rfl ?_); refine goesL_ (some 43) rfl rfl Tryz.func9 (by kernel_rfl) rfl #[.string ((a0 ++ (⟨#[10]⟩ : ByteArray)) ++ a1)] rfl (by (try simp only [List.map_toArray, List.map_cons, List.map_nil]); first | done | rfl | (simp only [List.length_drop, List.length_take]; rfl)) ?_; (with_reducible refine (tok_All.calls kj8 ((a0 ++ (⟨#[10]⟩ : ByteArray)) ++ a1) t305 t306 t307 _ ?side1 A15.out).mono ?_); (case side1 => exact GW.below (by repeat (first | (with_reducible first | exact HB.out | apply below_alloc | apply pw_below_drewN | apply below_drew1) | exact HB.out)) HG.out); rintro e w38 ⟨v308, rfl, ho0, hb⟩; refine ⟨_, rfl, ?_⟩; have n0_ := Aside0.mk (Kd.R_lower ho0 (below_size (by repeat (first | (with_reducible first | exact HB.out | apply below_alloc | apply pw_below_drewN | apply below_drew1) | exact HB.out)))); have n1_ := Aside0.mk (below_step (by repeat (first | (with_reducible first | exact HB.out | apply below_alloc | apply pw_below_drewN | apply below_drew1) | exact HB.out)) hb); clear HB; have HO309 := n0_; have HB := n1_; clear n0_ n1_; (try clear hb); (try clear hb2); (try clear hk); (try clear hi); (try clear ho0)) | ((with_reducible refine gate_callee (f := 9) rfl ?_); refine goesL_ (some 59) rfl rfl Tryz.func9 (by kernel_rfl) rfl #[.string (a0.extract 0 (t301 : Int).toNat)] rfl (by (try simp only [List.map_toArray, List.map_cons, List.map_nil]); first | done | rfl | (simp only [List.length_drop, List.length_take]; rfl)) ?_; (with_reducible refine (tok_All.calls kj8 (a0.extract 0 (t301 : Int).toNat) t310 t311 t312 _ ?side1 A22.out).mono ?_); (case side1 => exact GW.below (by repeat (first | (with_reducible first | exact HB.out | apply below_alloc | apply pw_below_drewN | apply below_drew1) | exact HB.out)) HG.out); rintro e w39 ⟨v313, rfl, ho0, hb⟩; refine ⟨_, rfl, ?_⟩; have n0_ := Aside0.mk (Kd.R_elder' (by (with_reducible repeat (first | apply Kd.R_alloc | apply Kd.R_drewN | apply Kd.R_drew)); exact HO309.out) (Kd.R_base ho0) hb); have n1_ := Aside0.mk (Kd.R_lower (Kd.R_new' ho0 (Kd.R_lt (by (with_reducible repeat (first | apply Kd.R_alloc | apply Kd.R_drewN | apply Kd.R_drew)); exact HO309.out))) (below_size (by repeat (first | (with_reducible first | exact HB.out | apply below_alloc | apply pw_below_drewN | apply below_drew1) | exact HB.out)))); have n2_ := Aside0.mk (below_step (by repeat (first | (with_reducible first | exact HB.out | apply below_alloc | apply pw_below_drewN | apply below_drew1) | exact HB.out)) hb); clear HO309; clear HB; have HO309 := n0_; have HO314 := n1_; have HB := n2_; clear n0_ n1_ n2_; (try clear hb); (try clear hb2); (try clear hk); (try clear hi); (try clear ho0)))
                            go_ret
                            exact ⟨by first | rfl | (simp [errW_none, errW_some] <;> rfl) | (simp [*, errW_none, errW_some] <;> rfl), by repeat (first | (with_reducible first | exact HB.out | apply below_alloc | apply pw_below_drewN | apply below_drew1) | exact HB.out)⟩
                        · rw [if_neg c21] at H
                          exact absurd H (by simp)
                      · rw [if_neg c20] at H
                        exact absurd H (by simp)
                · rw [if_neg c14] at H
                  exact absurd H (by simp)
              · rw [if_neg c13] at H
                exact absurd H (by simp)
/-- THE ONE PURE STATEMENT of hornbooklaw04_TokErrors: yours. -/
def hornbooklaw04_TokErrors.Pure : Prop := ∀ (a0 : ByteArray) (a1 : ByteArray), a0.size ≤ 140737488351232 → a1.size ≤ 140737488351232 → ∃ k, hornbooklaw04_TokErrors.f k a0 a1 = some true
theorem hornbooklaw04_TokErrors.walk (P : hornbooklaw04_TokErrors.Pure) (a0 : ByteArray) (a1 : ByteArray) (w : World) (w0 : a0.size ≤ 140737488351232) (w1 : a1.size ≤ 140737488351232)(hG : GW w) :
    Calls Tryz.prog 7 #[.string a0, .string a1] w fun e w' => e = .returned (.bool true) ∧ Below w.heap.size w w' := by
  obtain ⟨k, h⟩ := P a0 a1 w0 w1
  refine (hornbooklaw04_TokErrors.calls k a0 a1 true w hG h).mono ?_
  rintro e w' ⟨rfl, hd⟩
  exact ⟨rfl, hd⟩
end Go.Proofs.YtfdikkdbmlcjiaaGreatDoor.M
end
section
namespace Go.Proofs.YtfdikkdbmlcjiaaGreatDoor.M
open Go Go.RowKit
variable {H : Type} {enc : TypeId × Value → H}
theorem returns_both {a : Assume} {C : Checked} {os : Os} {f : FuncId} {fn : Func} {s : ChangeSpec} {conds : List PathCond} {apart fresh handsOn again : Bool} {X : World → Array Value → Prop}
    (hX : ∀ (w w' : World) (args : Array Value), w.heap = w'.heap → X w args → X w' args)
    (own : ownKnob C.prog.godebug = none) (started : os.Started) (noInit : C.prog.inits.idxOf? f = none) (hfn : C.prog.funcs[f]? = some fn)
    (witness : ∃ (w : World) (tape : Tape) (i : Input), w.os = os ∧ (w.forCall tape i).Shaped C.prog ∧ i.vars = [] ∧ Input.okWide C.prog (w.forCall tape i) .any w.heap.size f i ∧
      ((s.pre enc C.prog fn conds apart (w.forCall tape i).memory i.args ∧ X (w.forCall tape i).memory i.args) ∧ sizedMet enc C.prog fn (OpenSpec.ofChange s) apart (w.forCall tape i).memory i.args) ∧ a.holds C.prog (lone (Frame.enter C.prog f i.args .normal) [] (w.forCall tape i)))
    (contract : ∀ (W : World) (base : Nat) (args : Array Value) (ds gs : List (DataW H)) (before : List MemPlace),
      (∀ (j : Nat) t v, fn.params[j]? = some t → args[j]? = some v → Value.okWide C.prog W .any base t v) →
      DataW.Whole enc C.prog fn.params.toList s.vars apart W args.toList ds gs before →
      conds.all (PathCond.test C.prog ⟨fn.params.toList, ds, s.plain.varTypes C.prog, gs⟩) = true →
      (DataW.weightsEach C.prog (fn.params.toList ++ s.plain.varTypes C.prog) (ds ++ gs)).all (· ≤ reachBytes) = true → X W args → W.ShapedOpen C.prog →
      Calls C.prog f args W fun e W' => ∃ v, e = .returned v ∧ s.post enc C.prog fn apart fresh handsOn again W args v W') :
    ReturnsInHanded a C os f .any (fun w args => (s.pre enc C.prog fn conds apart w args ∧ X w args) ∧ sizedMet enc C.prog fn (OpenSpec.ofChange s) apart w args) (s.post enc C.prog fn apart fresh handsOn again) := by
  refine returnsInHanded_of_calls own started noInit witness ?_
  intro w tape i _ hsh _ hok hpre hholds
  obtain ⟨_, _, _, fn', hfn', _, _, _, _, hval⟩ := hok
  have e : fn' = fn := Option.some.inj (hfn'.symm.trans hfn)
  subst e
  obtain ⟨⟨⟨ds, gs, before, hw, hc⟩, hx⟩, hz⟩ := hpre
  have hw' := DataW.Whole.of_heap (w' := w.forCall tape i) (by rfl) hw
  refine (contract (w.forCall tape i) w.heap.size i.args ds gs before hval hw' hc (hz.weights hw) (hX _ _ _ (by rfl) hx) hsh).mono fun e W' ⟨v, he, hp⟩ => ?_
  subst he
  exact ChangeSpec.post_blind hp
theorem gw_star : "*" ++ "errors.errorString" = "*errors.errorString" := by decide
theorem gw_row (u : TypeId) (h : Tryz.prog.typeName? 3 u = some "*errors.errorString") : u = 146 :=
  typeName_ptr_named (nm := "errors.errorString") (by rw [gw_star]; kernel_rfl) (by kernel_rfl) (by decide) u (by rw [gw_star]; exact h)
/-- Out of a row's 'laid', from the two sentinels on, and the world's shape. -/
theorem GW.of_mets {r1 r2 : List (String × DataW Unit)} {t1 t2 : List UInt8} {W : World}
    (h1 : laidMet Tryz.prog (("strconv.ErrRange", .iface "*errors.errorString" (.ptr (.agg [.lit (.string t1)]))) :: r1) W)
    (h2 : laidMet Tryz.prog (("strconv.ErrSyntax", .iface "*errors.errorString" (.ptr (.agg [.lit (.string t2)]))) :: r2) W)
    {r4 : List (String × DataW Unit)} (h4 : laidMet Tryz.prog (("internal/strconv.uint64pow10", Rows.laid_internal_strconv_uint64pow10) :: r4) W)
    (hsh : W.ShapedOpen Tryz.prog) : GW W := by
  obtain ⟨a0, s0, hv0, -, -, -⟩ := laid_sentinel h1 (g := 0) (ti := 60) (by kernel_rfl) (by kernel_rfl) Tryz.underlying60 gw_row Tryz.underlying146 Tryz.underlying148 rfl rfl Tryz.underlying9 (by kernel_rfl) (by kernel_rfl)
  obtain ⟨a1, s1, hv1, -, -, -⟩ := laid_sentinel h2 (g := 3) (ti := 60) (by kernel_rfl) (by kernel_rfl) Tryz.underlying60 gw_row Tryz.underlying146 Tryz.underlying148 rfl rfl Tryz.underlying9 (by kernel_rfl) (by kernel_rfl)
  have c0 := World.var?_cell (P := Tryz.prog) (g := 0) (by kernel_rfl) hv0 0
  have c1 := World.var?_cell (P := Tryz.prog) (g := 3) (by kernel_rfl) hv1 0
  obtain ⟨m, hm⟩ := cell_of_shapedOpen_int (P := Tryz.prog) (g := 1) (t := 3) (zero := #[.int .i64 0]) hsh (of_decide_eq_true (by kernel_rfl)) (by kernel_rfl) rfl (by kernel_rfl) (by kernel_rfl) Tryz.underlying3
  have e4 : (Rows.laid_internal_strconv_uint64pow10 : DataW Unit) = Lib.tabData .u64 Lib.pow10Tab := by kernel_rfl
  rw [e4] at h4
  have hpow : Lib.TabIs Tryz.prog W "internal/strconv.uint64pow10" .u64 Lib.pow10Tab := Lib.tabIs_of_head (g := 2) (by kernel_rfl) (by kernel_rfl) Tryz.underlying131 Tryz.underlying101 (by kernel_rfl) (by kernel_rfl) h4
  exact {
    range := ⟨a0, by simpa using c0⟩
    syn := ⟨a1, by simpa using c1⟩
    max := ⟨m, hm⟩
    pow := hpow
  }
end Go.Proofs.YtfdikkdbmlcjiaaGreatDoor.M
end
section
namespace Go.Proofs.YtfdikkdbmlcjiaaGreatDoor.M
open Go.RowKit Go.Proofs.YtfdikkdbmlcjiaaGreatDoorW.PrintWords
set_option linter.unusedVariables false
set_option linter.unusedSimpArgs false
def isOct (c : UInt8) : Bool := decide (48 ≤ c.toNat) && decide (c.toNat < 56)
def octs (r : List UInt8) : List UInt8 := (r.take 3).takeWhile isOct
def octFold (acc : Nat) (l : List UInt8) : Nat := l.foldl (fun a c => a * 8 + (c.toNat - 48)) acc
theorem octFold_cons (acc : Nat) (c : UInt8) (l : List UInt8) : octFold acc (c :: l) = octFold (acc * 8 + (c.toNat - 48)) l := by unfold octFold; rw [List.foldl_cons]
theorem octFold_nil (acc : Nat) : octFold acc [] = acc := by unfold octFold; rw [List.foldl_nil]
attribute [irreducible] octFold
set_option maxHeartbeats 1600000 in
theorem number_loop (s : ByteArray) (d : Nat) : ∀ (i acc k : Nat), 3 - i = d → i ≤ 3 → i ≤ s.size → acc < 8 ^ i → d + 1 ≤ k →
    tok_number.l0 k s (acc : Int) (i : Int) = some (((octFold acc (((s.data.toList.drop i).take (3 - i)).takeWhile isOct) : Nat) : Int) % 256, ((i + (((s.data.toList.drop i).take (3 - i)).takeWhile isOct).length : Nat) : Int)) := by
  induction d with
  | zero =>
    intro i acc k hd hi hs ha hk
    obtain ⟨k, rfl⟩ : ∃ k', k = k' + 1 := ⟨k - 1, by omega⟩
    have : i = 3 := by omega
    subst this
    rw [tok_number.l0, if_neg (by omega), show 3 - 3 = 0 from rfl, List.take_zero, List.takeWhile_nil, octFold_nil, List.length_nil, Nat.add_zero]
  | succ d ih =>
    intro i acc k hd hi hs ha hk
    obtain ⟨k, rfl⟩ : ∃ k', k = k' + 1 := ⟨k - 1, by omega⟩
    rw [tok_number.l0, if_pos (by omega)]
    by_cases h1 : i < s.size
    · rw [if_pos (by omega), if_pos (by omega)]
      have hL : i < s.data.toList.length := by rw [← size_list]; exact h1
      have hdr : (s.data.toList.drop i).take (3 - i) = s.data.toList[i] :: (s.data.toList.drop (i + 1)).take (3 - (i + 1)) := by
        rw [List.drop_eq_getElem_cons hL, show 3 - i = (3 - (i + 1)) + 1 by omega, List.take_succ_cons]
      rw [hdr, bt_get s i h1]
      generalize s.data.toList[i] = c
      by_cases h2 : (c.toNat : Int) ≥ 48
      · rw [if_pos h2]
        by_cases h3 : (c.toNat : Int) < 56
        · have ho : isOct c = true := by unfold isOct; rw [Bool.and_eq_true, decide_eq_true_eq, decide_eq_true_eq]; omega
          have hi3 : i = 0 ∨ i = 1 ∨ i = 2 := by omega
          have ha2 : acc * 8 + (c.toNat - 48) < 8 ^ (i + 1) := by rw [Nat.pow_succ]; omega
          have hp : (8 : Nat) ^ i ≤ 64 := by rcases hi3 with rfl | rfl | rfl <;> decide
          rw [if_pos h3, List.takeWhile_cons, if_pos ho, octFold_cons, wrap_small (x := (acc : Int) * 8) (by omega) (by omega), show ((c.toNat : Int) - 48) % 256 = (c.toNat : Int) - 48 by omega,
            wrap_small (x := (acc : Int) * 8 + ((c.toNat : Int) - 48)) (by omega) (by omega), wrap_small (x := (i : Int) + 1) (by omega) (by omega)]
          have := ih (i + 1) (acc * 8 + (c.toNat - 48)) k (by omega) (by omega) (by omega) ha2 (by omega)
          rw [show (acc : Int) * 8 + ((c.toNat : Int) - 48) = ((acc * 8 + (c.toNat - 48) : Nat) : Int) by omega, show (i : Int) + 1 = ((i + 1 : Nat) : Int) by omega, this, List.length_cons]
          congr 3
          omega
        · have ho : isOct c = false := by unfold isOct; rw [Bool.and_eq_false_iff, decide_eq_false_iff_not, decide_eq_false_iff_not]; omega
          rw [if_neg h3, List.takeWhile_cons, if_neg (by rw [ho]; decide), octFold_nil, List.length_nil, Nat.add_zero]
      · have ho : isOct c = false := by unfold isOct; rw [Bool.and_eq_false_iff, decide_eq_false_iff_not, decide_eq_false_iff_not]; omega
        rw [if_neg h2, List.takeWhile_cons, if_neg (by rw [ho]; decide), octFold_nil, List.length_nil, Nat.add_zero]
    · rw [if_neg (by omega)]
      have hdr : s.data.toList.drop i = [] := List.drop_eq_nil_of_le (by rw [← size_list]; omega)
      rw [hdr, List.take_nil, List.takeWhile_nil, octFold_nil, List.length_nil, Nat.add_zero]
theorem number_eq (s : ByteArray) {k : Nat} (hk : 4 ≤ k) : tok_number.f k s = some (((octFold 0 (octs s.data.toList) : Nat) : Int) % 256, ((octs s.data.toList).length : Int)) := by
  unfold tok_number.f octs
  have := number_loop s 3 0 0 k rfl (by omega) (by omega) (by decide) (by omega)
  rw [List.drop_zero, Nat.zero_add] at this
  exact this
def letterOf (c : UInt8) : UInt8 := if c = 110 then 10 else if c = 114 then 13 else if c = 116 then 9 else if c = 98 then 8 else if c = 102 then 12 else c
/-- What a text behind a backslash begins with: its bytes, and how many they take. -/
def escG (r : List UInt8) : List UInt8 × Nat :=
  if 0 < (octs r).length then ([(octFold 0 (octs r) % 256).toUInt8], (octs r).length)
  else match r with
  | [] => ([], 0)
  | c :: t => if [13, 10].isPrefixOf (c :: t) then ([], 2) else if c = 10 ∨ c = 13 then ([], 1) else ([letterOf c], 1)
def idxT (c : UInt8) : Int := if c = 110 then 0 else if c = 114 then 1 else if c = 116 then 2 else if c = 98 then 3 else if c = 102 then 4 else -1
theorem idx_all : ∀ n : Fin 256, strings_IndexByte.f (⟨#[110, 114, 116, 98, 102]⟩ : ByteArray) (n.val : Int) = some (idxT n.val.toUInt8) := by decide +kernel
theorem idx_eq (c : UInt8) : strings_IndexByte.f (⟨#[110, 114, 116, 98, 102]⟩ : ByteArray) (c.toNat : Int) = some (idxT c) := by
  have := idx_all ⟨c.toNat, c.toNat_lt⟩
  rw [show ((⟨c.toNat, c.toNat_lt⟩ : Fin 256).val.toUInt8) = c from UInt8.ofNat_toNat] at this
  exact this
theorem str_one (n : Nat) : strOfNums [((n : Nat) : Int) % 256] = ⟨[(n % 256).toUInt8].toArray⟩ := by
  have : ((n : Nat) : Int) % 256 = ((n % 256 : Nat) : Int) := by omega
  rw [this]
  rfl
theorem letter_eq (c : UInt8) (x : ByteArray) (hx : x = ⟨#[c]⟩) : (if idxT c ≥ 0 then (if 0 ≤ idxT c then (if idxT c ≤ wrap64 (idxT c + 1) then (if wrap64 (idxT c + 1) ≤ 5 then some ((⟨#[10, 13, 9, 8, 12]⟩ : ByteArray).extract (idxT c).toNat (wrap64 (idxT c + 1)).toNat, (1 : Int)) else none) else none) else none) else some (x, 1)) = some (⟨#[letterOf c]⟩, 1) := by
  subst hx
  by_cases h1 : c = 110
  · subst h1
    rw [show idxT 110 = 0 by decide, show letterOf 110 = 10 by decide, show wrap64 (0 + 1) = 1 from wrap_small (by decide) (by decide), if_pos (by decide), if_pos (by decide), if_pos (by decide), if_pos (by decide), ext_mid]
    rfl
  by_cases h2 : c = 114
  · subst h2
    rw [show idxT 114 = 1 by decide, show letterOf 114 = 13 by decide, show wrap64 (1 + 1) = 2 from wrap_small (by decide) (by decide), if_pos (by decide), if_pos (by decide), if_pos (by decide), if_pos (by decide), ext_mid]
    rfl
  by_cases h3 : c = 116
  · subst h3
    rw [show idxT 116 = 2 by decide, show letterOf 116 = 9 by decide, show wrap64 (2 + 1) = 3 from wrap_small (by decide) (by decide), if_pos (by decide), if_pos (by decide), if_pos (by decide), if_pos (by decide), ext_mid]
    rfl
  by_cases h4 : c = 98
  · subst h4
    rw [show idxT 98 = 3 by decide, show letterOf 98 = 8 by decide, show wrap64 (3 + 1) = 4 from wrap_small (by decide) (by decide), if_pos (by decide), if_pos (by decide), if_pos (by decide), if_pos (by decide), ext_mid]
    rfl
  by_cases h5 : c = 102
  · subst h5
    rw [show idxT 102 = 4 by decide, show letterOf 102 = 12 by decide, show wrap64 (4 + 1) = 5 from wrap_small (by decide) (by decide), if_pos (by decide), if_pos (by decide), if_pos (by decide), if_pos (by decide), ext_mid]
    rfl
  have e1 : idxT c = -1 := by unfold idxT; simp only [h1, h2, h3, h4, h5, if_false]
  have e2 : letterOf c = c := by unfold letterOf; simp only [h1, h2, h3, h4, h5, if_false]
  rw [e1, e2, if_neg (by decide)]
theorem escaped_eq (s : ByteArray) {k : Nat} (hk : 4 ≤ k) : tok_escaped.f k s = some (⟨(escG s.data.toList).1.toArray⟩, ((escG s.data.toList).2 : Int)) := by
  unfold tok_escaped.f escG
  rw [number_eq s hk, Option.bind_some]
  dsimp only
  by_cases h0 : 0 < (octs s.data.toList).length
  · rw [if_pos (by omega), if_pos h0, str_one]
  rw [if_neg (by omega), if_neg h0]
  obtain ⟨k, rfl⟩ : ∃ k', k = k' + 1 := ⟨k - 1, by omega⟩
  rw [toList_data]
  rcases hs : s.data.toList with _ | ⟨c, t⟩
  · rw [if_pos rfl]; rfl
  rw [if_neg (by simp), hasPrefix_eq, Option.bind_some]
  have hsz : s.size = t.length + 1 := by rw [size_list, hs]; rfl
  have hbt : bt s 0 = c.toNat := by
    have := bt_get s 0 (by omega)
    rw [show ((0 : Nat) : Int) = 0 from rfl] at this
    rw [this]
    congr 1
    simp [hs]
  have hex : s.extract 0 1 = ⟨#[c]⟩ := by
    rw [ext_mid, hs]
    rfl
  rw [hs, show (⟨#[13, 10]⟩ : ByteArray).data.toList = [13, 10] from rfl]
  dsimp only
  by_cases hp : [13, 10].isPrefixOf (c :: t) = true
  · rw [if_pos hp, if_pos hp]; rfl
  rw [if_neg hp, if_neg hp, if_pos (by omega), hbt]
  by_cases h10 : c = 10
  · subst h10
    rw [if_pos (show (((10 : UInt8).toNat : Nat) : Int) = 10 from rfl), if_pos (show (10 : UInt8) = 10 ∨ (10 : UInt8) = 13 from .inl rfl), tok_escaped.j0, if_pos rfl]; rfl
  have n10 : ¬ ((c.toNat : Int) = 10) := fun e => h10 (UInt8.toNat_inj.1 (by show c.toNat = 10; omega))
  rw [if_neg n10, tok_escaped.j0]
  by_cases h13 : c = 13
  · subst h13
    rw [if_pos (show ((((13 : UInt8).toNat : Nat) : Int) == 13) = true from rfl), if_pos (show (13 : UInt8) = 10 ∨ (13 : UInt8) = 13 from .inr rfl)]; rfl
  have n13 : ¬ (((c.toNat : Int) == 13) = true) := fun e => h13 (UInt8.toNat_inj.1 (by have := beq_iff_eq.1 e; show c.toNat = 13; omega))
  rw [if_neg n13, if_neg (show ¬ (c = 10 ∨ c = 13) from fun e => e.elim h10 h13), if_pos (show (0 : Int) < (s.size : Int) by omega), hbt, idx_eq, Option.bind_some, if_pos (show (0 : Nat) ≤ 1 by decide), if_pos (show (1 : Int) ≤ (s.size : Int) by omega), letter_eq c _ hex]
  rfl
end Go.Proofs.YtfdikkdbmlcjiaaGreatDoor.M
end
section
namespace Go.Proofs.YtfdikkdbmlcjiaaGreatDoor.M
open Go.RowKit Go.Proofs.YtfdikkdbmlcjiaaGreatDoorW.PrintWords
set_option linter.unusedVariables false
set_option linter.unusedSimpArgs false
/-- How many bytes a new line takes that a text begins with, if it is one that begins with a carriage return. -/
def lineG (r : List UInt8) : Nat := if [13, 10].isPrefixOf r then 2 else if [13].isPrefixOf r then 1 else 0
theorem line_eq (s : ByteArray) : tok_line.f s = some (lineG s.data.toList : Int) := by
  unfold tok_line.f lineG
  rw [hasPrefix_eq, hasPrefix_eq, Option.bind_some, show (⟨#[13, 10]⟩ : ByteArray).data.toList = [13, 10] from rfl, show (⟨#[13]⟩ : ByteArray).data.toList = [13] from rfl]
  by_cases h1 : [13, 10].isPrefixOf s.data.toList = true
  · rw [if_pos h1, if_pos h1]; rfl
  rw [if_neg h1, if_neg h1, Option.bind_some]
  by_cases h2 : [13].isPrefixOf s.data.toList = true
  · rw [if_pos h2, if_pos h2]; rfl
  · rw [if_neg h2, if_neg h2]; rfl
def deepG (c : UInt8) (deep : Nat) : Nat := if c = 41 then deep - 1 else if c = 40 then deep + 1 else deep
/-- A Str behind its first bracket: the error, its bytes, and what is left. -/
def strG : Nat → Nat → List UInt8 → List UInt8 → Int × List UInt8 × List UInt8
  | 0, _, _, _ => (2, [], [])
  | _ + 1, _, _, [] => (2, [], [])
  | n + 1, deep, out, c :: t =>
    if c = 92 then (if (escG t).2 = 0 then (2, [], []) else strG n deep (out ++ (escG t).1) (t.drop (escG t).2))
    else if c = 41 ∧ deep = 1 then (0, out, t)
    else if c = 40 ∧ deep = 32 then (5, [], c :: t)
    else if 0 < lineG (c :: t) then strG n (deepG c deep) (out ++ [10]) ((c :: t).drop (lineG (c :: t)))
    else strG n (deepG c deep) (out ++ [c]) t
theorem octs_le (r : List UInt8) : (octs r).length ≤ 3 ∧ (octs r).length ≤ r.length := by
  unfold octs
  have h1 := (List.takeWhile_sublist (p := isOct) (l := r.take 3)).length_le
  rw [List.length_take] at h1
  omega
theorem escG_le (r : List UInt8) : (escG r).2 ≤ r.length ∧ (escG r).1.length ≤ 1 := by
  unfold escG
  have h := octs_le r
  split
  · exact ⟨h.2, by simp⟩
  · split
    · simp
    · rename_i c t _ _
      split
      · rename_i hp
        have := (List.isPrefixOf_iff_prefix.1 hp).length_le
        exact ⟨this, by simp⟩
      · split <;> simp
theorem lineG_le (r : List UInt8) : lineG r ≤ r.length ∧ lineG r ≤ 2 := by
  unfold lineG
  split
  · rename_i hp
    have := (List.isPrefixOf_iff_prefix.1 hp).length_le
    exact ⟨this, by omega⟩
  · split
    · rename_i hp
      have := (List.isPrefixOf_iff_prefix.1 hp).length_le
      exact ⟨this, by omega⟩
    · exact ⟨by omega, by omega⟩
theorem from_eq (a0 : ByteArray) (i : Nat) (hi : i ≤ a0.size) : tok_source_from.f a0 (i : Int) = some ⟨(a0.data.toList.drop i).toArray⟩ := by
  have hmn : mn (i : Int) (a0.size : Int) = (i : Int) := by unfold mn; split <;> omega
  unfold tok_source_from.f
  rw [hmn, if_pos (by omega), if_pos (by omega), Int.toNat_natCast, ext_from]
def strAns (a0 : ByteArray) (a1 : Int) (x : Int × List UInt8 × List UInt8) : TokR :=
  if x.1 = 0 then (5, a1, 0, ⟨x.2.1.toArray⟩, ((a0.size - x.2.2.length : Nat) : Int), 0) else (0, 0, 0, ⟨#[]⟩, ((a0.size - x.2.2.length : Nat) : Int), x.1)
set_option maxHeartbeats 1600000 in
theorem strung_loop (a0 : ByteArray) (a1 : Int) (hs : a0.size ≤ 140737488351000) (K : Nat) (hK : 4 ≤ K) : ∀ (n i deep k : Nat) (out : List UInt8), i ≤ a0.size → a0.size - i < n → n ≤ k → 1 ≤ deep → deep ≤ 32 → out.length ≤ i →
    tok_source_strung.g K a0 a1 k out (deep : Int) (i : Int) = some (strAns a0 a1 (strG n deep out (a0.data.toList.drop i)))
  | 0, i, deep, k, out => fun _ h => by omega
  | n + 1, i, deep, k, out => by
    intro hi hn hk hd1 hd2 ho
    obtain ⟨k, rfl⟩ : ∃ k', k = k' + 1 := ⟨k - 1, by omega⟩
    have ih := strung_loop a0 a1 hs K hK n
    rw [tok_source_strung.g, if_pos ⟨by omega, by omega, by omega, by omega, by omega, by omega⟩, from_eq a0 i hi, Option.bind_some]
    have hdl : (a0.data.toList.drop i).length = a0.size - i := by rw [List.length_drop, ← size_list]
    have hdd : ∀ m, (a0.data.toList.drop i).drop m = a0.data.toList.drop (i + m) := fun m => by rw [List.drop_drop]
    generalize hr : a0.data.toList.drop i = r at hdl hdd
    rcases r with _ | ⟨c, t⟩
    · rw [if_pos (show (⟨([] : List UInt8).toArray⟩ : ByteArray).size = 0 from rfl), strG]
      rfl
    have hsz : (⟨(c :: t).toArray⟩ : ByteArray).size = t.length + 1 := by rw [size_list, ba_list]; rfl
    have hbt : bt (⟨(c :: t).toArray⟩ : ByteArray) 0 = (c.toNat : Int) := by
      have := bt_get (⟨(c :: t).toArray⟩ : ByteArray) 0 (by omega)
      rw [show ((0 : Nat) : Int) = 0 from rfl] at this
      rw [this]
      simp
    have htl : (⟨(c :: t).toArray⟩ : ByteArray).extract 1 (⟨(c :: t).toArray⟩ : ByteArray).size = ⟨t.toArray⟩ := by
      have := ext_from (⟨(c :: t).toArray⟩ : ByteArray) 1
      rw [this, ba_list]
      rfl
    rw [List.length_cons] at hdl
    rw [if_neg (by omega), hbt, htl, strG]
    by_cases h92 : c = 92
    · subst h92
      rw [if_pos (show (((92 : UInt8).toNat : Nat) : Int) = 92 from rfl), if_pos (show (92 : UInt8) = 92 from rfl), escaped_eq _ hK, Option.bind_some, ba_list]
      dsimp only
      have he := escG_le t
      by_cases h0 : (escG t).2 = 0
      · rw [if_pos (by omega), if_pos h0]
        rfl
      rw [if_neg (by omega), if_neg h0, if_pos ⟨by omega, by omega, by rw [size_list, ba_list]; omega⟩]
      have := ih (i + 1 + (escG t).2) deep k (out ++ (escG t).1) (by omega) (by omega) (by omega) hd1 hd2 (by rw [List.length_append]; omega)
      rw [show (i : Int) + (1 + ((escG t).2 : Int)) = ((i + 1 + (escG t).2 : Nat) : Int) by omega, this]
      have hx := hdd (1 + (escG t).2)
      rw [show i + (1 + (escG t).2) = i + 1 + (escG t).2 by omega, ← List.drop_drop, List.drop_one, List.tail_cons] at hx
      rw [hx]
    have n92 : ¬ ((c.toNat : Int) = 92) := fun e => h92 (UInt8.toNat_inj.1 (by show c.toNat = 92; omega))
    rw [if_neg n92, if_neg h92]
    have cast : ∀ x : UInt8, ((c.toNat : Int) = (x.toNat : Int)) ↔ c = x := fun x => ⟨fun e => UInt8.toNat_inj.1 (by omega), fun e => by rw [e]⟩
    have c41 := cast 41
    have c40 := cast 40
    rw [show (((41 : UInt8).toNat : Nat) : Int) = 41 from rfl] at c41
    rw [show (((40 : UInt8).toNat : Nat) : Int) = 40 from rfl] at c40
    by_cases h41 : c = 41 ∧ deep = 1
    · rw [if_pos ⟨c41.2 h41.1, by omega⟩, if_pos h41]
      show _ = some (strAns a0 a1 ((0 : Int), out, t))
      unfold strAns
      rw [if_pos rfl]
      dsimp only
      rw [show a0.size - t.length = i + 1 by omega]
      rfl
    rw [if_neg (fun e => h41 ⟨c41.1 e.1, by have := e.2; omega⟩), if_neg h41]
    by_cases h40 : c = 40 ∧ deep = 32
    · rw [if_pos ⟨c40.2 h40.1, by omega⟩, if_pos h40]
      show _ = some (strAns a0 a1 ((5 : Int), [], c :: t))
      unfold strAns
      rw [if_neg (show ¬ (5 : Int) = 0 by decide)]
      dsimp only
      rw [List.length_cons, show a0.size - (t.length + 1) = i by omega]
    rw [if_neg (fun e => h40 ⟨c40.1 e.1, by have := e.2; omega⟩), if_neg h40]
    have hdp : deepOf (c.toNat : Int) (deep : Int) = ((deepG c deep : Nat) : Int) ∧ 1 ≤ deepG c deep ∧ deepG c deep ≤ 32 := by
      unfold deepOf deepG
      by_cases e1 : c = 41
      · have : deep ≠ 1 := fun e => h41 ⟨e1, e⟩
        rw [if_pos (c41.2 e1), if_pos e1]
        omega
      rw [if_neg (fun e => e1 (c41.1 e)), if_neg e1]
      by_cases e2 : c = 40
      · have : deep ≠ 32 := fun e => h40 ⟨e2, e⟩
        rw [if_pos (c40.2 e2), if_pos e2]
        omega
      · rw [if_neg (fun e => e2 (c40.1 e)), if_neg e2]
        omega
    have hl := lineG_le (c :: t)
    rw [List.length_cons] at hl
    rw [line_eq, Option.bind_some, ba_list, hdp.1]
    by_cases h0 : 0 < lineG (c :: t)
    · rw [if_pos ⟨by omega, by omega⟩, if_pos h0]
      have := ih (i + lineG (c :: t)) (deepG c deep) k (out ++ [10]) (by omega) (by omega) (by omega) hdp.2.1 hdp.2.2 (by rw [List.length_append, List.length_singleton]; omega)
      rw [show (i : Int) + (lineG (c :: t) : Int) = ((i + lineG (c :: t) : Nat) : Int) by omega, this, hdd]
    · rw [if_neg (fun e => h0 (by have := e.1; omega)), if_pos (by omega), if_neg h0, show (c.toNat : Int).toNat.toUInt8 = c from by rw [Int.toNat_natCast]; exact UInt8.ofNat_toNat]
      have := ih (i + 1) (deepG c deep) k (out ++ [c]) (by omega) (by omega) (by omega) hdp.2.1 hdp.2.2 (by rw [List.length_append, List.length_singleton]; omega)
      rw [show (i : Int) + 1 = ((i + 1 : Nat) : Int) by omega, this, ← hdd 1]
      rfl
end Go.Proofs.YtfdikkdbmlcjiaaGreatDoor.M
end
section
namespace Go.Proofs.YtfdikkdbmlcjiaaGreatDoor.M
open Go.RowKit Go.Proofs.YtfdikkdbmlcjiaaGreatDoorW.PrintWords
set_option linter.unusedVariables false
set_option linter.unusedSimpArgs false
/-- A digit that waits for its second one stands as a byte already. -/
def rowOf (acc : List Int) : Option Int → List Int
  | none => acc
  | some h => acc ++ [h * 16]
def unhG : List Int → Option Int → List UInt8 → Int × List Int × List UInt8
  | acc, hi, [] => (0, rowOf acc hi, [])
  | acc, hi, c :: t => match hexVal c.toNat with
    | some v => (match hi with | none => unhG acc (some v) t | some h => unhG (acc ++ [h * 16 + v]) none t)
    | none => if isWhite c.toNat = true then unhG acc hi t else (1, [], c :: t)
def unhAns (s : ByteArray) (x : Int × List Int × List UInt8) : List Int × Int × Int := if x.1 = 0 then (x.2.1, (s.size : Int), 0) else ([], ((s.size - x.2.2.length : Nat) : Int), 1)
theorem hexVal_lt {c v : Int} (h : hexVal c = some v) : 0 ≤ v ∧ v < 16 := by
  unfold hexVal at h
  split at h
  · injection h; omega
  · split at h
    · injection h; omega
    · split at h
      · injection h; omega
      · cases h
theorem or_all : ∀ h v : Fin 16, Go.bits .or .u8 ((h.val : Int) * 16) (v.val : Int) = (h.val : Int) * 16 + v.val := by decide +kernel
theorem or_eq (h v : Int) (h0 : 0 ≤ h) (h1 : h < 16) (v0 : 0 ≤ v) (v1 : v < 16) : Go.bits .or .u8 (h * 16) v = h * 16 + v := by
  have := or_all ⟨h.toNat, by omega⟩ ⟨v.toNat, by omega⟩
  dsimp only at this
  rw [Int.toNat_of_nonneg h0, Int.toNat_of_nonneg v0] at this
  exact this
theorem rowOf_length (acc : List Int) (hi : Option Int) : (rowOf acc hi).length ≤ acc.length + 1 := by
  unfold rowOf; split <;> simp
set_option maxHeartbeats 1600000 in
theorem unhex_loop (s : ByteArray) (hs : s.size < 140737488355000) (d : Nat) : ∀ (i k : Nat) (acc : List Int) (hi : Option Int), s.size - i = d → i ≤ s.size → 2 * d + 4 ≤ k → acc.length + 1 ≤ i + 1 → (∀ h, hi = some h → 0 ≤ h ∧ h < 16) →
    hex_UnHex.l0 k s (rowOf acc hi) hi.isNone (s.size : Int) (i : Int) = some (unhAns s (unhG acc hi (s.data.toList.drop i))) := by
  induction d with
  | zero =>
    intro i k acc hi hd h0 hk ha hh
    obtain ⟨k, rfl⟩ : ∃ k', k = k' + 1 := ⟨k - 1, by omega⟩
    rw [hex_UnHex.l0, if_neg (by omega), List.drop_eq_nil_of_le (by rw [← size_list]; omega)]
    cases hi <;> rfl
  | succ d ih =>
    intro i k acc hi hd h0 hk ha hh
    obtain ⟨k, rfl⟩ : ∃ k', k = k' + 2 := ⟨k - 2, by omega⟩
    have hlt : i < s.size := by omega
    have hL : i < s.data.toList.length := by rw [← size_list]; exact hlt
    have hdr := List.drop_eq_getElem_cons hL
    have hrem : (s.data.toList.drop i).length = s.size - i := by rw [List.length_drop, ← size_list]
    rw [hex_UnHex.l0, if_pos (by omega), if_pos (by omega), if_pos (by omega), bt_get s i hlt]
    rw [hdr] at hrem ⊢
    generalize s.data.toList[i] = c at hrem ⊢
    have hc := c.toNat_lt
    have hnx : wrap64 ((i : Int) + 1) = ((i + 1 : Nat) : Int) := wrap_small (by omega) (by omega)
    rw [wrap_small (x := (c.toNat : Int)) (by omega) (by omega), digit_eq (by omega) _ (by omega) (by omega), Option.bind_some]
    dsimp only
    rw [unhG]
    have ih2 := ih (i + 1) k
    cases hv : hexVal c.toNat with
    | some v =>
      have hvb := hexVal_lt hv
      rw [if_pos (show (some v).isSome = true from rfl), hex_UnHex.j1, if_neg (show ¬ (false = true) by decide), if_pos (show (some v).isSome = true from rfl), hnx]
      dsimp only [Option.getD_some]
      cases hi with
      | none =>
        rw [if_pos (show (none : Option Int).isNone = true from rfl), if_pos (by have := rowOf_length acc none; omega), wrap_small (x := v * 16) (by omega) (by omega), show v * 16 % 256 = v * 16 by omega]
        have := ih2 acc (some v) (by omega) (by omega) (by omega) (by omega) (fun h e => by cases e; exact hvb)
        exact this
      | some h =>
        have hb := hh h rfl
        have hlen : (rowOf acc (some h)).length = acc.length + 1 := by simp [rowOf]
        rw [if_neg (show ¬ ((some h).isNone = true) by simp), hlen, wrap_small (x := ((acc.length + 1 : Nat) : Int) - 1) (by omega) (by omega), if_pos (by omega), if_pos (by omega), show (((acc.length + 1 : Nat) : Int) - 1) = (acc.length : Int) by omega]
        have hrd : rd (rowOf acc (some h)) (acc.length : Int) = h * 16 := by
          unfold rd rowOf
          rw [Int.toNat_natCast]
          simp
        have hset : (rowOf acc (some h)).set (acc.length : Int).toNat (h * 16 + v) = acc ++ [h * 16 + v] := by
          rw [Int.toNat_natCast]
          simp [rowOf]
        rw [hrd, show v % 256 = v by omega, or_eq h v hb.1 hb.2 hvb.1 hvb.2, hset]
        have := ih2 (acc ++ [h * 16 + v]) none (by omega) (by omega) (by omega) (by rw [List.length_append, List.length_singleton]; omega) (fun h e => by cases e)
        exact this
    | none =>
      rw [if_neg (show ¬ ((none : Option Int).isSome = true) by simp)]
      rw [show hex_White.f (c.toNat : Int) = some (isWhite c.toNat) from rfl, Option.bind_some, hex_UnHex.j1]
      by_cases hw : isWhite c.toNat = true
      · rw [if_pos hw, if_pos hw, hnx]
        exact ih2 acc hi (by omega) (by omega) (by omega) (by omega) hh
      · rw [if_neg hw, if_neg hw, if_neg (show ¬ ((none : Option Int).isSome = true) by simp)]
        unfold unhAns
        rw [if_neg (show ¬ (1 : Int) = 0 by decide)]
        dsimp only
        rw [hrem, show s.size - (s.size - i) = i by omega]
theorem unhex_eq (s : ByteArray) (hs : s.size < 140737488355000) {k : Nat} (hk : 2 * s.size + 4 ≤ k) : hex_UnHex.f k s = some (unhAns s (unhG [] none s.data.toList)) := by
  have := unhex_loop s hs s.size 0 k [] none (by omega) (by omega) hk (by simp) (fun h e => by cases e)
  rw [List.drop_zero] at this
  exact this
end Go.Proofs.YtfdikkdbmlcjiaaGreatDoor.M
end
section
namespace Go.Proofs.YtfdikkdbmlcjiaaGreatDoor.M
open Go.RowKit Go.Proofs.YtfdikkdbmlcjiaaGreatDoorW.PrintWords
set_option linter.unusedVariables false
def isRegB (c : UInt8) : Bool := clsOf c.toNat == 0
def wordAt (l : List UInt8) (i : Nat) : List UInt8 := (l.drop i).takeWhile isRegB
def placeN (s : ByteArray) (a : Int) : Nat := (max 0 (min a s.size)).toNat
theorem placeN_le (s : ByteArray) (a : Int) : placeN s a ≤ s.size := by unfold placeN; omega
theorem place_eq (s : ByteArray) (a : Int) : lex_place.f s a = some (placeN s a : Int) := by
  unfold lex_place.f placeN
  congr 1
  unfold mx mn
  repeat' split
  all_goals omega
theorem wordAt_cons (l : List UInt8) (i : Nat) (h : i < l.length) (hr : isRegB l[i] = true) : wordAt l i = l[i] :: wordAt l (i + 1) := by
  unfold wordAt
  rw [List.drop_eq_getElem_cons h, List.takeWhile_cons, if_pos hr]
theorem wordAt_stop (l : List UInt8) (i : Nat) (h : i < l.length) (hr : isRegB l[i] = false) : wordAt l i = [] := by
  unfold wordAt
  rw [List.drop_eq_getElem_cons h, List.takeWhile_cons, if_neg (by simp [hr])]
theorem wordAt_end (l : List UInt8) (i : Nat) (h : l.length ≤ i) : wordAt l i = [] := by
  unfold wordAt
  rw [List.drop_of_length_le h]; rfl
theorem wordAt_le (l : List UInt8) (i : Nat) (h : i ≤ l.length) : i + (wordAt l i).length ≤ l.length := by
  have : (wordAt l i).length ≤ (l.drop i).length := by unfold wordAt; exact (List.takeWhile_prefix _).length_le
  rw [List.length_drop] at this; omega
theorem cls_get (s : ByteArray) (i : Nat) (h : i < s.size) {k : Nat} (hk : 2 ≤ k) : lex_Class.f k (wrap64 (bt s i)) = some (clsOf (s.data.toList[i]'(by simpa using h)).toNat) := by
  have hr := bt_range s i
  rw [wrap_small hr.1 (by omega), bt_get s i h, class_eq hk]
theorem word_loop (s : ByteArray) (hs : s.size < 4611686018427387904) (a : Nat) (d : Nat) : ∀ (i k : Nat), s.size - i = d → i ≤ s.size → a ≤ i → d + 4 ≤ k →
    lex_Word.l0 k s a i = some (s.extract a (i + (wordAt s.data.toList i).length), ((i + (wordAt s.data.toList i).length : Nat) : Int)) := by
  induction d with
  | zero =>
    intro i k hd hi ha hk
    obtain ⟨k, rfl⟩ : ∃ m, k = m + 1 := ⟨k - 1, by omega⟩
    simp only [lex_Word.l0]
    rw [wordAt_end _ _ (by rw [← size_list]; omega), if_neg (by omega), if_pos (by omega), if_pos (by omega), if_pos (by omega)]
    simp
  | succ d ih =>
    intro i k hd hi ha hk
    obtain ⟨k, rfl⟩ : ∃ m, k = m + 1 := ⟨k - 1, by omega⟩
    have hlt : i < s.size := by omega
    have hl : i < s.data.toList.length := by rw [← size_list]; exact hlt
    simp only [lex_Word.l0]
    rw [if_pos (by omega), if_pos (by omega), cls_get s i hlt (by omega)]
    simp only [Option.bind_some]
    by_cases hr : isRegB s.data.toList[i] = true
    · have h0 : clsOf (s.data.toList[i]).toNat = 0 := by simpa [isRegB] using hr
      rw [if_pos h0, wrap_small (by omega) (by omega)]
      have := ih (i + 1) k (by omega) (by omega) (by omega) (by omega)
      rw [show ((i : Int) + 1) = ((i + 1 : Nat) : Int) by omega, this, wordAt_cons _ _ hl hr]
      simp only [List.length_cons]
      rw [show i + 1 + (wordAt s.data.toList (i + 1)).length = i + ((wordAt s.data.toList (i + 1)).length + 1) by omega]
    · have h0 : ¬ clsOf (s.data.toList[i]).toNat = 0 := by simpa [isRegB] using hr
      have hr' : isRegB s.data.toList[i] = false := by simpa using hr
      rw [if_neg h0, wordAt_stop _ _ hl hr', if_pos (by omega), if_pos (by omega), if_pos (by omega)]
      simp
/-- What Word tells. -/
theorem word_eq (s : ByteArray) (hs : s.size < 4611686018427387904) (a : Int) {k : Nat} (hk : s.size + 4 ≤ k) :
    lex_Word.f k s a = some (⟨(wordAt s.data.toList (placeN s a)).toArray⟩, ((placeN s a + (wordAt s.data.toList (placeN s a)).length : Nat) : Int)) := by
  unfold lex_Word.f
  rw [place_eq]
  simp only [Option.bind_some]
  rw [word_loop s hs (placeN s a) _ (placeN s a) k rfl (placeN_le s a) (Nat.le_refl _) (by omega), ext_mid]
  have e : (s.data.toList.drop (placeN s a)).take (placeN s a + (wordAt s.data.toList (placeN s a)).length - placeN s a) = wordAt s.data.toList (placeN s a) := by
    rw [Nat.add_sub_cancel_left]
    unfold wordAt
    exact (List.prefix_iff_eq_take.1 (List.takeWhile_prefix _)).symm
  rw [e]
end Go.Proofs.YtfdikkdbmlcjiaaGreatDoor.M
end
section
namespace Go.Proofs.YtfdikkdbmlcjiaaGreatDoor.M
open Go.RowKit Go.Proofs.YtfdikkdbmlcjiaaGreatDoorW.PrintWords
set_option linter.unusedVariables false
def isNL (c : UInt8) : Bool := c == 10 || c == 13
/-- How many bytes are skipped; the first argument: in a remark. -/
def skipG : Bool → List UInt8 → Nat
  | _, [] => 0
  | true, c :: r => 1 + skipG (!isNL c) r
  | false, c :: r => if c == 37 then 1 + skipG true r else if clsOf c.toNat == 1 then 1 + skipG false r else 0
def nlAt (r : List UInt8) : Nat := (r.takeWhile (fun c => !isNL c)).length
theorem skipG_le : ∀ (l : List UInt8) (b : Bool), skipG b l ≤ l.length
  | [], b => by cases b <;> simp [skipG]
  | c :: r, true => by have := skipG_le r (!isNL c); simp only [skipG, List.length_cons]; omega
  | c :: r, false => by
    have h1 := skipG_le r true
    have h2 := skipG_le r false
    simp only [skipG, List.length_cons]
    split
    · omega
    · split <;> omega
theorem skipG_stable : ∀ (l : List UInt8) (b : Bool), skipG false (l.drop (skipG b l)) = 0
  | [], b => by cases b <;> simp [skipG]
  | c :: r, true => by
    have := skipG_stable r (!isNL c)
    simp only [skipG]
    rw [Nat.add_comm, List.drop_succ_cons]; exact this
  | c :: r, false => by
    have h1 := skipG_stable r true
    have h2 := skipG_stable r false
    rw [skipG]
    split
    · rw [Nat.add_comm, List.drop_succ_cons]; exact h1
    · split
      · rw [Nat.add_comm, List.drop_succ_cons]; exact h2
      · rename_i n1 n2
        rw [List.drop_zero, skipG, if_neg n1, if_neg n2]
theorem skipG_zero (c : UInt8) (r : List UInt8) (h : skipG false (c :: r) = 0) : (c == 37) = false ∧ (clsOf c.toNat == 1) = false := by
  rw [skipG] at h
  split at h
  · omega
  · split at h
    · omega
    · rename_i n1 n2
      exact ⟨by simpa using n1, by simpa using n2⟩
theorem skipG_remark : ∀ r : List UInt8, skipG true r = if nlAt r < r.length then nlAt r + 1 + skipG false (r.drop (nlAt r + 1)) else r.length
  | [] => by simp [skipG, nlAt]
  | c :: r => by
    have ih := skipG_remark r
    simp only [skipG]
    cases hc : isNL c with
    | true =>
      have e : nlAt (c :: r) = 0 := by simp [nlAt, hc]
      rw [e, if_pos (by simp)]
      simp
    | false =>
      have e : nlAt (c :: r) = nlAt r + 1 := by simp [nlAt, hc]
      rw [e, Bool.not_false, ih]
      simp only [List.length_cons, List.drop_succ_cons]
      by_cases hl : nlAt r < r.length
      · rw [if_pos hl, if_pos (by omega)]; omega
      · rw [if_neg hl, if_neg (by omega)]; omega
/-- Where the remark ends, as the program finds it. -/
def endOf (r : List UInt8) : Int := if 0 ≤ Lib.indexByte r 13 ∧ (Lib.indexByte r 10 < 0 ∨ Lib.indexByte r 13 < Lib.indexByte r 10) then Lib.indexByte r 13 else Lib.indexByte r 10
theorem indexByte_cons (c : UInt8) (r : List UInt8) (x : UInt8) : Lib.indexByte (c :: r) x = if c = x then 0 else if Lib.indexByte r x = -1 then -1 else Lib.indexByte r x + 1 := by
  simp [Lib.indexByte]
theorem endOf_eq : ∀ r : List UInt8, endOf r = if nlAt r < r.length then (nlAt r : Int) else -1
  | [] => by simp [endOf, nlAt, Lib.indexByte]
  | c :: r => by
    have ih := endOf_eq r
    have ha := Lib.indexByte_ge r 10
    have hb := Lib.indexByte_ge r 13
    have ea := indexByte_cons c r 10
    have eb := indexByte_cons c r 13
    unfold endOf at ih ⊢
    generalize Lib.indexByte (c :: r) 10 = A at ea ⊢
    generalize Lib.indexByte (c :: r) 13 = B at eb ⊢
    generalize Lib.indexByte r 10 = a at ea ih ha
    generalize Lib.indexByte r 13 = b at eb ih hb
    by_cases h10 : c = 10
    · subst h10
      have e : nlAt (10 :: r) = 0 := by simp [nlAt, isNL]
      rw [if_pos rfl] at ea
      rw [if_neg (by decide)] at eb
      have hr : (if nlAt (10 :: r) < (10 :: r).length then ((nlAt (10 :: r) : Nat) : Int) else -1) = 0 := by rw [e]; simp
      rw [hr]
      split at eb <;> (split <;> omega)
    · by_cases h13 : c = 13
      · subst h13
        have e : nlAt (13 :: r) = 0 := by simp [nlAt, isNL]
        rw [if_pos rfl] at eb
        rw [if_neg (by decide)] at ea
        have hr : (if nlAt (13 :: r) < (13 :: r).length then ((nlAt (13 :: r) : Nat) : Int) else -1) = 0 := by rw [e]; simp
        rw [hr]
        split at ea <;> (split <;> omega)
      · have e : nlAt (c :: r) = nlAt r + 1 := by simp [nlAt, isNL, h10, h13]
        rw [if_neg h10] at ea
        rw [if_neg h13] at eb
        by_cases hn : nlAt r < r.length
        · rw [if_pos hn] at ih
          have hr : (if nlAt (c :: r) < (c :: r).length then ((nlAt (c :: r) : Nat) : Int) else -1) = ((nlAt r + 1 : Nat) : Int) := by rw [e, List.length_cons, if_pos (by omega)]
          rw [hr]
          split at ih <;> split at ea <;> split at eb <;> (split <;> omega)
        · rw [if_neg hn] at ih
          have hr : (if nlAt (c :: r) < (c :: r).length then ((nlAt (c :: r) : Nat) : Int) else -1) = -1 := by rw [e, List.length_cons, if_neg (by omega)]
          rw [hr]
          split at ih <;> split at ea <;> split at eb <;> (split <;> omega)
theorem skip_loop (s : ByteArray) (hs : s.size < 4611686018427387904) (d : Nat) : ∀ (i k : Nat), s.size - i ≤ d → i ≤ s.size → 2 * d + 4 ≤ k →
    lex_Skip.l0 k s i = some ((i + skipG false (s.data.toList.drop i) : Nat) : Int) := by
  induction d with
  | zero =>
    intro i k hd hi hk
    obtain ⟨k, rfl⟩ : ∃ m, k = m + 1 := ⟨k - 1, by omega⟩
    simp only [lex_Skip.l0]
    rw [if_neg (by omega), List.drop_of_length_le (by rw [← size_list]; omega)]
    simp [skipG]
  | succ d ih =>
    intro i k hd hi hk
    obtain ⟨k, rfl⟩ : ∃ m, k = m + 1 := ⟨k - 1, by omega⟩
    by_cases hlt : i < s.size
    · have hl : i < s.data.toList.length := by rw [← size_list]; exact hlt
      simp only [lex_Skip.l0]
      rw [if_pos (by omega), if_pos (by omega), bt_get s i hlt, List.drop_eq_getElem_cons hl]
      by_cases hc : (s.data.toList[i].toNat : Int) = 37
      · have hc' : s.data.toList[i] = 37 := UInt8.toNat_inj.1 (show s.data.toList[i].toNat = (37 : UInt8).toNat by have : (37 : UInt8).toNat = 37 := rfl; omega)
        rw [if_pos hc, if_pos (by omega)]
        obtain ⟨k, rfl⟩ : ∃ m, k = m + 1 := ⟨k - 1, by omega⟩
        have hx : s.extract (i : Int).toNat s.size = ⟨(s.data.toList.drop i).toArray⟩ := by rw [Int.toNat_natCast, ext_from]
        rw [hx]
        simp only [strings_IndexByte.f, Option.bind_some, show (Int.toNat 13).toUInt8 = 13 from rfl, show (Int.toNat 10).toUInt8 = 10 from rfl]
        have hb := Lib.indexByte_ge (s.data.toList.drop i) 13
        have ha := Lib.indexByte_ge (s.data.toList.drop i) 10
        have he := endOf_eq (s.data.toList.drop i)
        have hlen : (s.data.toList.drop i).length = s.size - i := by rw [List.length_drop, ← size_list]
        have hnl : nlAt (s.data.toList.drop i) ≤ (s.data.toList.drop i).length := by unfold nlAt; exact (List.takeWhile_prefix _).length_le
        have hsk : skipG false (s.data.toList[i] :: s.data.toList.drop (i + 1)) = skipG true (s.data.toList.drop i) := by
          rw [List.drop_eq_getElem_cons hl, hc']; simp [skipG, isNL]
        rw [hsk, skipG_remark]
        have key : lex_Skip.j1 (k + 1) s i (Lib.indexByte (s.data.toList.drop i) 10) (Lib.indexByte (s.data.toList.drop i) 13) (decide (0 ≤ Lib.indexByte (s.data.toList.drop i) 13 ∧ (Lib.indexByte (s.data.toList.drop i) 10 < 0 ∨ Lib.indexByte (s.data.toList.drop i) 13 < Lib.indexByte (s.data.toList.drop i) 10))) = if endOf (s.data.toList.drop i) < 0 then some (s.size : Int) else lex_Skip.l0 k s (wrap64 ((wrap64 (i + endOf (s.data.toList.drop i))) + 1)) := by
          by_cases hcnd : 0 ≤ Lib.indexByte (s.data.toList.drop i) 13 ∧ (Lib.indexByte (s.data.toList.drop i) 10 < 0 ∨ Lib.indexByte (s.data.toList.drop i) 13 < Lib.indexByte (s.data.toList.drop i) 10)
          · have e : endOf (s.data.toList.drop i) = Lib.indexByte (s.data.toList.drop i) 13 := by unfold endOf; rw [if_pos hcnd]
            rw [e, decide_eq_true hcnd, lex_Skip.j1, if_pos rfl]
          · have e : endOf (s.data.toList.drop i) = Lib.indexByte (s.data.toList.drop i) 10 := by unfold endOf; rw [if_neg hcnd]
            rw [e, decide_eq_false hcnd, lex_Skip.j1, if_neg (by decide)]
        have key2 : (if Lib.indexByte (s.data.toList.drop i) 13 ≥ 0 then (if Lib.indexByte (s.data.toList.drop i) 10 < 0 then lex_Skip.j1 (k + 1) s i (Lib.indexByte (s.data.toList.drop i) 10) (Lib.indexByte (s.data.toList.drop i) 13) true else lex_Skip.j1 (k + 1) s i (Lib.indexByte (s.data.toList.drop i) 10) (Lib.indexByte (s.data.toList.drop i) 13) (decide (Lib.indexByte (s.data.toList.drop i) 13 < Lib.indexByte (s.data.toList.drop i) 10))) else lex_Skip.j1 (k + 1) s i (Lib.indexByte (s.data.toList.drop i) 10) (Lib.indexByte (s.data.toList.drop i) 13) false) = lex_Skip.j1 (k + 1) s i (Lib.indexByte (s.data.toList.drop i) 10) (Lib.indexByte (s.data.toList.drop i) 13) (decide (0 ≤ Lib.indexByte (s.data.toList.drop i) 13 ∧ (Lib.indexByte (s.data.toList.drop i) 10 < 0 ∨ Lib.indexByte (s.data.toList.drop i) 13 < Lib.indexByte (s.data.toList.drop i) 10))) := by
          split
          · rename_i h1
            split
            · rename_i h2
              rw [decide_eq_true (show _ ∧ _ from ⟨h1, .inl h2⟩)]
            · rename_i h2
              congr 1
              rw [decide_eq_decide]
              constructor
              · intro h3; exact ⟨h1, .inr h3⟩
              · rintro ⟨_, h3 | h3⟩
                · exact absurd h3 h2
                · exact h3
          · rename_i h1
            rw [decide_eq_false (show ¬ (_ ∧ _) from fun h3 => h1 h3.1)]
        rw [key2, key]
        clear key key2 ha hb hx hc hc' hsk
        · rw [he]
          clear he
          have hih := fun (n : Nat) (h : n < (s.data.toList.drop i).length) => ih (i + n + 1) k (by omega) (by omega) (by omega)
          clear ih
          generalize (s.data.toList.drop i).length = L at *
          generalize hnn : nlAt (s.data.toList.drop i) = n at *
          clear hnn
          by_cases hn : n < L
          · rw [if_pos hn, if_pos hn, if_neg (by omega)]
            have e1 : wrap64 ((i : Int) + (n : Int)) = (i : Int) + (n : Int) := wrap_small (by omega) (by omega)
            have e2 : wrap64 ((i : Int) + (n : Int) + 1) = ((i + n + 1 : Nat) : Int) := by
              rw [wrap_small (by omega) (by omega)]; omega
            rw [e1, e2, hih n hn, List.drop_drop, show i + n + 1 = i + (n + 1) by omega, Nat.add_assoc]
          · rw [if_neg hn, if_neg hn, if_pos (by omega)]
            congr 1
            omega
      · have hc' : (s.data.toList[i] == 37) = false := by
          rw [beq_eq_false_iff_ne]; intro e; apply hc; rw [e]; rfl
        rw [if_neg hc, ← bt_get s i hlt, cls_get s i hlt (by omega)]
        simp only [Option.bind_some]
        have hr : skipG false (s.data.toList[i] :: s.data.toList.drop (i + 1)) = if clsOf (s.data.toList[i]).toNat == 1 then 1 + skipG false (s.data.toList.drop (i + 1)) else 0 := by
          rw [skipG, hc']; rfl
        rw [hr]
        by_cases h1 : clsOf (s.data.toList[i]).toNat = 1
        · rw [if_pos h1, if_pos (by simpa using h1), wrap_small (by omega) (by omega)]
          have := ih (i + 1) k (by omega) (by omega) (by omega)
          rw [show ((i : Int) + 1) = ((i + 1 : Nat) : Int) by omega, this]
          congr 1
          omega
        · rw [if_neg h1, if_neg (by simpa using h1)]
          rfl
    · simp only [lex_Skip.l0]
      rw [if_neg (by omega), List.drop_of_length_le (by rw [← size_list]; omega)]
      simp [skipG]
/-- What Skip tells. -/
def skipN (s : ByteArray) (a : Int) : Nat := placeN s a + skipG false (s.data.toList.drop (placeN s a))
theorem skipN_le (s : ByteArray) (a : Int) : skipN s a ≤ s.size := by
  have h1 := skipG_le (s.data.toList.drop (placeN s a)) false
  have h2 := placeN_le s a
  rw [List.length_drop, ← size_list] at h1
  unfold skipN; omega
theorem skip_eq (s : ByteArray) (hs : s.size < 4611686018427387904) (a : Int) {k : Nat} (hk : 2 * s.size + 4 ≤ k) : lex_Skip.f k s a = some (skipN s a : Int) := by
  unfold lex_Skip.f
  rw [place_eq]
  simp only [Option.bind_some]
  rw [skip_loop s hs s.size _ k (by omega) (placeN_le s a) hk]
  rfl
end Go.Proofs.YtfdikkdbmlcjiaaGreatDoor.M
end
section
namespace Go.Proofs.YtfdikkdbmlcjiaaGreatDoor.M
open Go.RowKit Go.Proofs.YtfdikkdbmlcjiaaGreatDoorW.PrintWords
set_option linter.unusedVariables false
set_option linter.unusedSimpArgs false
/-- Kind, number, text, length (or the error's place), error. -/
abbrev NxR := Int × Int × ByteArray × Nat × Int
def nxErr (len : Nat) (e : Int) : NxR := (0, 0, ⟨#[]⟩, len, e)
def hexedG (t : List UInt8) : NxR :=
  if (Lib.cut t [62]).2.2 = true then
    (if (unhG [] none (Lib.cut t [62]).1).1 = 0 then (4, 0, strOfNums (unhG [] none (Lib.cut t [62]).1).2.1, (Lib.cut t [62]).1.length + 2, 0)
     else nxErr (1 + ((Lib.cut t [62]).1.length - (unhG [] none (Lib.cut t [62]).1).2.2.length)) 1)
  else nxErr (t.length + 1) 2
def strungG (t : List UInt8) : NxR :=
  if (strG (t.length + 1) 1 [] t).1 = 0 then (5, 0, ⟨(strG (t.length + 1) 1 [] t).2.1.toArray⟩, t.length + 1 - (strG (t.length + 1) 1 [] t).2.2.length, 0)
  else nxErr (t.length + 1 - (strG (t.length + 1) 1 [] t).2.2.length) (strG (t.length + 1) 1 [] t).1
def wordedG (r : List UInt8) : NxR :=
  if (lexInt (wordAt r 0)).2 = 0 then (1, (lexInt (wordAt r 0)).1, ⟨#[]⟩, (wordAt r 0).length, 0)
  else if (lexInt (wordAt r 0)).2 = 3 then (3, 0, ⟨(wordAt r 0).toArray⟩, (wordAt r 0).length, 0)
  else nxErr 0 (lexInt (wordAt r 0)).2
def nextR (r : List UInt8) : NxR :=
  match signOf r with
  | some (x, m) => (x, 0, ⟨#[]⟩, m, 0)
  | none => match r with
    | [] => (0, 0, ⟨#[]⟩, 0, 0)
    | c :: t =>
      if c = 41 ∨ c = 62 then nxErr 0 3
      else if c = 47 then (2, 0, ⟨(nameGo (wordAt t 0)).toArray⟩, 1 + (wordAt t 0).length, 0)
      else if c = 60 then hexedG t
      else if c = 40 then strungG t
      else wordedG (c :: t)
def nxAns (p : Nat) (x : NxR) : TokR := if x.2.2.2.2 = 0 then (x.1, (p : Int), x.2.1, x.2.2.1, ((p + x.2.2.2.1 : Nat) : Int), 0) else (0, 0, 0, ⟨#[]⟩, ((p + x.2.2.2.1 : Nat) : Int), x.2.2.2.2)
theorem strG_rem : ∀ (n deep : Nat) (out r : List UInt8), (strG n deep out r).2.2.length ≤ r.length
  | 0, _, _, _ => by simp [strG]
  | _ + 1, _, _, [] => by simp [strG]
  | n + 1, deep, out, c :: t => by
    have ih := strG_rem n
    rw [strG]
    split
    · split
      · simp
      · refine Nat.le_trans (ih _ _ _) ?_
        rw [List.length_drop, List.length_cons]; omega
    · split
      · simp
      · split
        · simp
        · split
          · refine Nat.le_trans (ih _ _ _) ?_
            rw [List.length_drop]; omega
          · refine Nat.le_trans (ih _ _ _) ?_
            simp
theorem strung_rel (a0 : ByteArray) (p k : Nat) (t : List UInt8) (hs : a0.size ≤ 140737488351000) (hp : p < a0.size) (hk : a0.size + 4 ≤ k) (ht : a0.data.toList.drop (p + 1) = t) :
    tok_source_strung.f k a0 (p : Int) = some (nxAns p (strungG t)) := by
  have hl : t.length = a0.size - (p + 1) := by rw [← ht, List.length_drop, ← size_list]
  unfold tok_source_strung.f
  rw [if_pos ⟨by omega, by omega⟩]
  have := strung_loop a0 p hs k (by omega) (t.length + 1) (p + 1) 1 k [] (by omega) (by omega) (by omega) (by omega) (by omega) (by simp)
  rw [ht] at this
  rw [show (p : Int) + 1 = ((p + 1 : Nat) : Int) by omega, show (1 : Int) = ((1 : Nat) : Int) from rfl, this]
  congr 1
  have hr : (strG (t.length + 1) 1 [] t).2.2.length ≤ t.length := by
    exact strG_rem _ _ _ _
  unfold strAns strungG nxAns
  by_cases h0 : (strG (t.length + 1) 1 [] t).1 = 0
  · rw [if_pos h0, if_pos h0]
    dsimp only
    rw [if_pos rfl, show p + (t.length + 1 - (strG (t.length + 1) 1 [] t).2.2.length) = a0.size - (strG (t.length + 1) 1 [] t).2.2.length by omega]
  · rw [if_neg h0, if_neg h0]
    unfold nxErr
    dsimp only
    rw [if_neg h0, show p + (t.length + 1 - (strG (t.length + 1) 1 [] t).2.2.length) = a0.size - (strG (t.length + 1) 1 [] t).2.2.length by omega]
theorem worded_rel (a0 : ByteArray) (p k : Nat) (hs : a0.size ≤ 140737488351000) (hp : p ≤ a0.size) (hk : a0.size + 4 ≤ k) :
    tok_source_worded.f k a0 (p : Int) = some (nxAns p (wordedG (a0.data.toList.drop p))) := by
  have hpl : placeN a0 (p : Int) = p := by unfold placeN; omega
  have hw : wordAt (a0.data.toList.drop p) 0 = wordAt a0.data.toList p := by unfold wordAt; rw [List.drop_zero]
  have hl := wordAt_le a0.data.toList p (by rw [← size_list]; exact hp)
  unfold tok_source_worded.f
  rw [word_eq a0 (by omega) _ hk, Option.bind_some, hpl]
  unfold wordedG
  rw [hw]
  dsimp only
  rw [show lex_Int.f (⟨(wordAt a0.data.toList p).toArray⟩ : ByteArray) = some (lexInt (wordAt a0.data.toList p)) from by
    unfold lex_Int.f
    rw [if_pos (by rw [size_list, ba_list]; rw [← size_list] at hl; omega), ba_list], Option.bind_some]
  by_cases h0 : (lexInt (wordAt a0.data.toList p)).2 = 0
  · rw [if_pos h0, if_pos h0]
    rfl
  rw [if_neg h0, if_neg h0]
  by_cases h3 : (lexInt (wordAt a0.data.toList p)).2 = 3
  · rw [if_pos h3, if_pos h3]
    rfl
  rw [if_neg h3, if_neg h3]
  unfold nxAns nxErr
  dsimp only
  rw [if_neg h0, Nat.add_zero]
theorem index_gt : ∀ t : List UInt8, Lib.index t [62] = if 62 ∈ t then ((t.takeWhile (fun c => c != 62)).length : Int) else -1
  | [] => by simp [Lib.index]
  | b :: l => by
    have ih := index_gt l
    rw [Lib.index]
    by_cases hb : b = 62
    · subst hb
      rw [if_pos (by simp [List.isPrefixOf]), if_pos (by simp)]
      simp
    · rw [if_neg (by simp [List.isPrefixOf]; exact fun e => hb e.symm), ih]
      by_cases hm : 62 ∈ l
      · rw [if_pos hm, if_neg (by rw [beq_iff_eq]; omega), if_pos (List.mem_cons_of_mem _ hm), List.takeWhile_cons, if_pos (by simpa using hb), List.length_cons]
        omega
      · rw [if_neg hm, if_pos (by rfl), if_neg (by simp [hm]; exact fun e => hb e.symm)]
theorem cut_gt (t : List UInt8) : Lib.cut t [62] = if 62 ∈ t then (t.takeWhile (fun c => c != 62), t.drop ((t.takeWhile (fun c => c != 62)).length + 1), true) else (t, [], false) := by
  unfold Lib.cut
  rw [index_gt]
  by_cases hm : 62 ∈ t
  · rw [if_pos hm, if_pos (by omega), if_pos hm, Int.toNat_natCast, ← List.prefix_iff_eq_take.1 (List.takeWhile_prefix _)]
    rfl
  · rw [if_neg hm, if_neg (by decide), if_neg hm]
theorem take_gt : ∀ t : List UInt8, 62 ∈ t → (t.takeWhile (fun c => c != 62)).length + 1 ≤ t.length
  | [], h => by cases h
  | b :: l, h => by
    by_cases hb : b = 62
    · subst hb; simp
    · have hm : 62 ∈ l := by
        rcases List.mem_cons.1 h with e | e
        · exact absurd e.symm hb
        · exact e
      have := take_gt l hm
      rw [List.takeWhile_cons, if_pos (by simpa using hb), List.length_cons, List.length_cons]
      omega
theorem hexed_rel (a0 : ByteArray) (p k : Nat) (t : List UInt8) (hs : a0.size ≤ 4294967000) (hp : p < a0.size) (hk : 2 * a0.size + 4 ≤ k) (ht : a0.data.toList.drop (p + 1) = t) :
    tok_source_hexed.f k a0 (p : Int) = some (nxAns p (hexedG t)) := by
  have hl : t.length = a0.size - (p + 1) := by rw [← ht, List.length_drop, ← size_list]
  have hcl : (Lib.cut t [62]).2.2 = true → (Lib.cut t [62]).1.length + 1 ≤ t.length := by
    rw [cut_gt]
    split
    · rename_i hm
      exact fun _ => take_gt t hm
    · exact fun h => by cases h
  unfold tok_source_hexed.f
  rw [wrap_small (x := (p : Int) + 1) (by omega) (by omega), show (p : Int) + 1 = ((p + 1 : Nat) : Int) by omega, from_eq a0 (p + 1) (by omega), ht, Option.bind_some]
  have hts : (⟨t.toArray⟩ : ByteArray).size = t.length := by rw [size_list, ba_list]
  have hcs : (⟨(Lib.cut t [62]).1.toArray⟩ : ByteArray).size = (Lib.cut t [62]).1.length := by rw [size_list, ba_list]
  unfold strings_Cut.f
  rw [if_pos (by omega), Option.bind_some, ba_list, show (⟨#[62]⟩ : ByteArray).data.toList = [62] from rfl]
  unfold hexedG
  dsimp only
  by_cases hf : (Lib.cut t [62]).2.2 = true
  · have hfl := hcl hf
    rw [if_pos hf, if_pos hf, unhex_eq _ (by omega) (by omega), Option.bind_some, ba_list]
    unfold unhAns
    by_cases h0 : (unhG [] none (Lib.cut t [62]).1).1 = 0
    · rw [if_pos h0, if_pos h0]
      dsimp only
      rw [if_pos rfl, hcs, wrap_small (x := (p : Int) + ((Lib.cut t [62]).1.length : Int)) (by omega) (by omega), wrap_small (by omega) (by omega)]
      unfold nxAns
      dsimp only
      rw [if_pos rfl, show (p : Int) + ((Lib.cut t [62]).1.length : Int) + 2 = ((p + ((Lib.cut t [62]).1.length + 2) : Nat) : Int) by omega]
    · rw [if_neg h0, if_neg h0]
      dsimp only
      rw [if_neg (show ¬ (1 : Int) = 0 by decide), hcs]
      unfold nxAns nxErr
      dsimp only
      rw [if_neg (show ¬ (1 : Int) = 0 by decide), wrap_small (by omega) (by omega), show ((p + 1 : Nat) : Int) + (((Lib.cut t [62]).1.length - (unhG [] none (Lib.cut t [62]).1).2.2.length : Nat) : Int) = ((p + (1 + ((Lib.cut t [62]).1.length - (unhG [] none (Lib.cut t [62]).1).2.2.length)) : Nat) : Int) by omega]
  · rw [if_neg hf, if_neg hf]
    unfold nxAns nxErr
    dsimp only
    rw [if_neg (show ¬ (2 : Int) = 0 by decide), show p + (t.length + 1) = a0.size by omega]
end Go.Proofs.YtfdikkdbmlcjiaaGreatDoor.M
end
section
namespace Go.Proofs.YtfdikkdbmlcjiaaGreatDoor.M
open Go.RowKit Go.Proofs.YtfdikkdbmlcjiaaGreatDoorW.PrintWords
set_option linter.unusedVariables false
set_option linter.unusedSimpArgs false
def nextA (s : ByteArray) (a : Int) : TokR := if skipN s a = s.size then (0, (s.size : Int), 0, ⟨#[]⟩, (s.size : Int), 0) else nxAns (skipN s a) (nextR (s.data.toList.drop (skipN s a)))
set_option maxHeartbeats 1600000 in
theorem next_eq (s : ByteArray) (a : Int) (hs : s.size ≤ 4294967000) {k : Nat} (hk : 2 * s.size + 8 ≤ k) : tok_Next.f k s a = some (nextA s a) := by
  unfold tok_Next.f nextA
  rw [skip_eq s (by omega) a (by omega), Option.bind_some]
  have hpl := skipN_le s a
  generalize skipN s a = p at hpl
  by_cases he : p = s.size
  · rw [if_pos (by omega), if_pos he, he]
  rw [if_neg (by omega), if_neg he]
  have hp : p < s.size := by omega
  have hL : p < s.data.toList.length := by rw [← size_list]; exact hp
  have hdr := List.drop_eq_getElem_cons hL
  have hbt := bt_get s p hp
  rw [show tok_source_sign.f s (p : Int) = (match signOf (s.data.toList.drop p) with | some (x, n) => some (x, (p : Int), 0, ⟨#[]⟩, (p : Int) + n, true) | none => some (0, 0, 0, ⟨#[]⟩, (p : Int), false)) from by
    unfold tok_source_sign.f
    rw [if_pos ⟨by omega, by omega, by omega⟩, Int.toNat_natCast]
    cases signOf (s.data.toList.drop p) <;> rfl]
  unfold nextR
  cases hsg : signOf (s.data.toList.drop p) with
  | some xm =>
    obtain ⟨x, m⟩ := xm
    dsimp only
    rw [Option.bind_some, if_pos rfl]
    unfold nxAns
    dsimp only
    rw [if_pos rfl, show (p : Int) + (m : Int) = ((p + m : Nat) : Int) by omega]
  | none =>
    dsimp only
    rw [Option.bind_some]
    dsimp only
    rw [if_neg (show ¬ (false = true) by decide), if_pos (by omega), if_pos (by omega), hbt]
    have ht : s.data.toList.drop (p + 1) = s.data.toList.drop (p + 1) := rfl
    have hw := worded_rel s p
    rw [hdr] at hw ⊢
    generalize s.data.toList[p] = c at hw ⊢
    generalize hT : s.data.toList.drop (p + 1) = t at hw ⊢
    have hst := fun k => strung_rel s p k t (by omega) hp
    have hhx := fun k => hexed_rel s p k t hs hp
    obtain ⟨k, rfl⟩ : ∃ k', k = k' + 1 := ⟨k - 1, by omega⟩
    have cst : ∀ x : UInt8, ((c.toNat : Int) = (x.toNat : Int)) ↔ c = x := fun x => ⟨fun e => UInt8.toNat_inj.1 (by omega), fun e => by rw [e]⟩
    have c41 : ((c.toNat : Int) = 41) ↔ c = 41 := cst 41
    have c62 : ((c.toNat : Int) = 62) ↔ c = 62 := cst 62
    have c47 : ((c.toNat : Int) = 47) ↔ c = 47 := cst 47
    have c60 : ((c.toNat : Int) = 60) ↔ c = 60 := cst 60
    have c40 : ((c.toNat : Int) = 40) ↔ c = 40 := cst 40
    have key : ∀ b : Bool, (b = true ↔ (c = 41 ∨ c = 62)) → tok_Next.j0 (k + 1) s (p : Int) s (c.toNat : Int) b = some (nxAns p (if c = 41 ∨ c = 62 then nxErr 0 3 else if c = 47 then (2, 0, ⟨(nameGo (wordAt t 0)).toArray⟩, 1 + (wordAt t 0).length, 0) else if c = 60 then hexedG t else if c = 40 then strungG t else wordedG (c :: t))) := by
      intro b hb
      rw [tok_Next.j0]
      by_cases h : c = 41 ∨ c = 62
      · rw [if_pos (hb.2 h), if_pos h]
        rfl
      rw [if_neg (fun e => h (hb.1 e)), if_neg h]
      by_cases h1 : c = 47
      · rw [if_pos (c47.2 h1), if_pos h1, wrap_small (x := (p : Int) + 1) (by omega) (by omega), word_eq s (by omega) _ (by omega), Option.bind_some]
        have hpn : placeN s ((p : Int) + 1) = p + 1 := by unfold placeN; omega
        have hwa : wordAt s.data.toList (p + 1) = wordAt t 0 := by unfold wordAt; rw [hT, List.drop_zero]
        have hwl := wordAt_le s.data.toList (p + 1) (by rw [← size_list]; omega)
        rw [← size_list, hwa] at hwl
        rw [hpn, hwa]
        dsimp only
        rw [show lex_Name.f (⟨(wordAt t 0).toArray⟩ : ByteArray) = some ⟨(nameGo (wordAt t 0)).toArray⟩ from by
          unfold lex_Name.f
          rw [if_pos (by rw [size_list, ba_list]; omega), ba_list], Option.bind_some]
        unfold nxAns
        dsimp only
        rw [if_pos rfl, show p + (1 + (wordAt t 0).length) = p + 1 + (wordAt t 0).length by omega]
      rw [if_neg (fun e => h1 (c47.1 e)), if_neg h1]
      by_cases h2 : c = 60
      · rw [if_pos (c60.2 h2), if_pos h2, hhx k (by omega) hT, Option.bind_some]
      rw [if_neg (fun e => h2 (c60.1 e)), if_neg h2]
      by_cases h3 : c = 40
      · rw [if_pos (c40.2 h3), if_pos h3, hst k (by omega) hT, Option.bind_some]
      rw [if_neg (fun e => h3 (c40.1 e)), if_neg h3, hw k (by omega) (by omega) (by omega), Option.bind_some]
    by_cases h : (c.toNat : Int) = 41
    · rw [if_pos h]
      exact key _ ⟨fun _ => .inl (c41.1 h), fun _ => beq_iff_eq.2 h⟩
    · rw [if_neg h]
      refine key _ ⟨fun e => .inr (c62.1 (beq_iff_eq.1 e)), fun e => beq_iff_eq.2 ?_⟩
      rcases e with e | e
      · exact absurd (c41.2 e) h
      · exact c62.2 e
end Go.Proofs.YtfdikkdbmlcjiaaGreatDoor.M
end
section
namespace Go.Proofs.YtfdikkdbmlcjiaaGreatDoor.M
open Go.RowKit Go.Proofs.YtfdikkdbmlcjiaaGreatDoorW.PrintWords
set_option linter.unusedVariables false
set_option linter.unusedSimpArgs false
theorem nameGo_len : ∀ l : List UInt8, (nameGo l).length ≤ l.length
  | [] => Nat.le_refl _
  | [c] => by rw [nameGo_short c [] (by simp)]; simp [nameGo]
  | [c, a] => by
    rw [nameGo_short c [a] (by simp), nameGo_short a [] (by simp)]; simp [nameGo]
  | c :: a :: b :: l => by
    have h1 := nameGo_len (a :: b :: l)
    have h2 := nameGo_len l
    by_cases hc : (c == 35) = false
    · rw [nameGo_plain c _ hc]
      simp only [List.length_cons] at h1 ⊢; omega
    · cases ha : hexVal a.toNat with
      | none => rw [nameGo_no c a b l (by rw [ha]; rfl)]; simp only [List.length_cons] at h1 ⊢; omega
      | some x => cases hb : hexVal b.toNat with
        | none => rw [nameGo_no c a b l (by rw [ha, hb]; rfl)]; simp only [List.length_cons] at h1 ⊢; omega
        | some y =>
          have hc' : c = 35 := by simpa using hc
          rw [hc', nameGo_yes a b l x y ha hb]; simp only [List.length_cons] at h2 ⊢; omega
theorem strG_out : ∀ (n deep : Nat) (out r : List UInt8), (strG n deep out r).1 = 0 → (strG n deep out r).2.1.length + (strG n deep out r).2.2.length + 1 ≤ out.length + r.length
  | 0, _, _, _ => by intro h; exact absurd h (by simp [strG])
  | _ + 1, _, _, [] => by intro h; exact absurd h (by simp [strG])
  | n + 1, deep, out, c :: t => by
    have ih := strG_out n
    have he := escG_le t
    have hl := lineG_le (c :: t)
    rw [strG]
    split
    · split
      · intro h; exact absurd h (by decide)
      · intro h
        have := ih _ _ _ h
        rw [List.length_append, List.length_drop] at this
        rw [List.length_cons]; omega
    · split
      · intro _; simp only [List.length_cons]; omega
      · split
        · intro h; exact absurd (show (5 : Int) = 0 from h) (by decide)
        · split
          · intro h
            have := ih _ _ _ h
            rw [List.length_append, List.length_drop, List.length_singleton] at this
            omega
          · intro h
            have := ih _ _ _ h
            rw [List.length_append, List.length_singleton] at this
            rw [List.length_cons]; omega
theorem unhG_out : ∀ (t : List UInt8) (acc : List Int) (hi : Option Int), (unhG acc hi t).2.1.length ≤ acc.length + t.length + 1 ∧ (hi = none → (unhG acc hi t).2.1.length ≤ acc.length + t.length) ∧ (unhG acc hi t).2.2.length ≤ t.length
  | [], acc, hi => by
    rw [unhG]
    have := rowOf_length acc hi
    refine ⟨by simpa using this, ?_, by simp⟩
    rintro rfl
    simp [rowOf]
  | c :: t, acc, hi => by
    rw [unhG]
    cases hexVal c.toNat with
    | some v =>
      cases hi with
      | none =>
        have ih := unhG_out t acc (some v)
        simp only [List.length_cons]
        exact ⟨by omega, fun _ => by omega, by omega⟩
      | some h =>
        have ih := unhG_out t (acc ++ [h * 16 + v]) none
        simp only [List.length_cons, List.length_append, List.length_nil] at ih ⊢
        exact ⟨by omega, fun e => by (cases e), by omega⟩
    | none =>
      dsimp only
      split
      · have ih := unhG_out t acc hi
        simp only [List.length_cons]
        exact ⟨by omega, fun e => by have := ih.2.1 e; omega, by omega⟩
      · simp
theorem str_nums_size (l : List Int) : (strOfNums l).size = l.length := by
  unfold strOfNums
  show (List.toArray _).size = _
  simp
/-- What is told of the next token: how long it is, what kind, how long its text is. -/
def NxOk (r : List UInt8) (x : NxR) : Prop := x.2.2.2.1 ≤ r.length ∧ (x.2.2.2.2 = 0 → 1 ≤ x.2.2.2.1 ∧ 1 ≤ x.1 ∧ x.1 ≤ 11 ∧ x.2.2.1.size ≤ x.2.2.2.1)
theorem nxErr_ok (r : List UInt8) (len : Nat) (e : Int) (he : e ≠ 0) (hl : len ≤ r.length) : NxOk r (nxErr len e) := ⟨hl, fun h => absurd h he⟩
theorem hexedG_ok (c : UInt8) (t : List UInt8) : NxOk (c :: t) (hexedG t) := by
  unfold hexedG
  rw [cut_gt]
  by_cases hm : 62 ∈ t
  · rw [if_pos hm]
    dsimp only
    have ht := take_gt t hm
    have hu := unhG_out (t.takeWhile (fun c => c != 62)) [] none
    rw [if_pos rfl]
    split
    · refine ⟨by simp only [List.length_cons]; omega, fun _ => ⟨by simp, by show (1 : Int) ≤ 4; decide, by show (4 : Int) ≤ 11; decide, ?_⟩⟩
      dsimp only
      rw [str_nums_size]
      have := hu.2.1 rfl
      simp only [List.length_nil] at this
      omega
    · exact nxErr_ok _ _ _ (by decide) (by simp only [List.length_cons]; omega)
  · rw [if_neg hm]
    dsimp only
    rw [if_neg (by decide)]
    exact nxErr_ok _ _ _ (by decide) (by simp)
theorem strungG_ok (c : UInt8) (t : List UInt8) : NxOk (c :: t) (strungG t) := by
  unfold strungG
  have hr := strG_rem (t.length + 1) 1 [] t
  split
  · rename_i h
    have ho := strG_out (t.length + 1) 1 [] t h
    simp only [List.length_nil] at ho
    refine ⟨by dsimp only; rw [List.length_cons]; omega, fun _ => ⟨by dsimp only; omega, by show (1 : Int) ≤ 5; decide, by show (5 : Int) ≤ 11; decide, ?_⟩⟩
    dsimp only
    rw [ba_size]
    omega
  · rename_i h
    exact nxErr_ok _ _ _ h (by rw [List.length_cons]; omega)
theorem wordAt_zero (r : List UInt8) : wordAt r 0 = r.takeWhile isRegB := by unfold wordAt; rw [List.drop_zero]
theorem wordedG_ok (r : List UInt8) (h : 1 ≤ (wordAt r 0).length) : NxOk r (wordedG r) := by
  have hl := wordAt_le r 0 (by omega)
  unfold wordedG
  split
  · refine ⟨by dsimp only; omega, fun _ => ⟨h, by show (1 : Int) ≤ 1; decide, by show (1 : Int) ≤ 11; decide, ?_⟩⟩
    dsimp only
    show 0 ≤ _
    omega
  · split
    · refine ⟨by dsimp only; omega, fun _ => ⟨h, by show (1 : Int) ≤ 3; decide, by show (3 : Int) ≤ 11; decide, ?_⟩⟩
      dsimp only
      rw [ba_size]
      omega
    · rename_i h0 _
      exact nxErr_ok _ _ _ h0 (by omega)
theorem signOf_len (r : List UInt8) (x : Int) (m : Nat) (h : signOf r = some (x, m)) : ∃ s, isSign x s ∧ s.isPrefixOf r = true ∧ m = s.length := by
  unfold signOf at h
  have fin : ∀ (y : Int) (s : List UInt8), isSign y s → s.isPrefixOf r = true → (y, s.length) = (x, m) → ∃ s, isSign x s ∧ s.isPrefixOf r = true ∧ m = s.length := by
    intro y s hy hs e
    injection e with e1 e2
    subst e1 e2
    exact ⟨s, hy, hs, rfl⟩
  split at h
  · rename_i hp; exact fin 6 [91] (by simp [isSign]) hp (Option.some.inj h)
  split at h
  · rename_i hp; exact fin 7 [93] (by simp [isSign]) hp (Option.some.inj h)
  split at h
  · rename_i hp; exact fin 8 [60, 60] (by simp [isSign]) hp (Option.some.inj h)
  split at h
  · rename_i hp; exact fin 9 [62, 62] (by simp [isSign]) hp (Option.some.inj h)
  split at h
  · rename_i hp; exact fin 10 [123] (by simp [isSign]) hp (Option.some.inj h)
  split at h
  · rename_i hp; exact fin 11 [125] (by simp [isSign]) hp (Option.some.inj h)
  · cases h
theorem sign_ok {x : Int} {s r : List UInt8} (hs : isSign x s) (hp : s.isPrefixOf r = true) : NxOk r (x, 0, ⟨#[]⟩, s.length, 0) := by
  have hl := (List.isPrefixOf_iff_prefix.1 hp).length_le
  refine ⟨hl, fun _ => ?_⟩
  dsimp only
  refine ⟨?_, ?_, ?_, Nat.zero_le _⟩
  · rcases hs with ⟨rfl, rfl⟩ | ⟨rfl, rfl⟩ | ⟨rfl, rfl⟩ | ⟨rfl, rfl⟩ | ⟨rfl, rfl⟩ | ⟨rfl, rfl⟩ <;> decide
  · rcases hs with ⟨rfl, rfl⟩ | ⟨rfl, rfl⟩ | ⟨rfl, rfl⟩ | ⟨rfl, rfl⟩ | ⟨rfl, rfl⟩ | ⟨rfl, rfl⟩ <;> decide
  · rcases hs with ⟨rfl, rfl⟩ | ⟨rfl, rfl⟩ | ⟨rfl, rfl⟩ | ⟨rfl, rfl⟩ | ⟨rfl, rfl⟩ | ⟨rfl, rfl⟩ <;> decide
/-- A byte is regular, a blank, or one of ten. -/
theorem byte_cases : ∀ n : Fin 256, isRegB n.val.toUInt8 = true ∨ (clsOf (n.val.toUInt8).toNat == 1) = true ∨ n.val.toUInt8 ∈ ([40, 41, 60, 62, 91, 93, 123, 125, 47, 37] : List UInt8) := by decide +kernel
theorem byte_case (c : UInt8) : isRegB c = true ∨ (clsOf c.toNat == 1) = true ∨ c ∈ ([40, 41, 60, 62, 91, 93, 123, 125, 47, 37] : List UInt8) := by
  have := byte_cases ⟨c.toNat, c.toNat_lt⟩
  rw [show ((⟨c.toNat, c.toNat_lt⟩ : Fin 256).val.toUInt8) = c from UInt8.ofNat_toNat] at this
  exact this
theorem sign_first {c : UInt8} (t : List UInt8) (h : c = 91 ∨ c = 93 ∨ c = 123 ∨ c = 125) : signOf (c :: t) ≠ none := by
  rcases h with rfl | rfl | rfl | rfl <;> simp [signOf, List.isPrefixOf]
theorem nextR_ok (c : UInt8) (t : List UInt8) (hk : skipG false (c :: t) = 0) : NxOk (c :: t) (nextR (c :: t)) := by
  unfold nextR
  cases hsg : signOf (c :: t) with
  | some xm =>
    obtain ⟨x, m⟩ := xm
    obtain ⟨s, hs, hp, rfl⟩ := signOf_len _ _ _ hsg
    exact sign_ok hs hp
  | none =>
    dsimp only
    split
    · exact nxErr_ok _ _ _ (by decide) (by simp)
    rename_i n1
    split
    · have hl := wordAt_le t 0 (by omega)
      have hn := nameGo_len (wordAt t 0)
      refine ⟨by dsimp only; rw [List.length_cons]; omega, fun _ => ⟨by dsimp only; omega, by show (1 : Int) ≤ 2; decide, by show (2 : Int) ≤ 11; decide, ?_⟩⟩
      dsimp only
      rw [ba_size]
      omega
    rename_i n2
    split
    · exact hexedG_ok c t
    rename_i n3
    split
    · exact strungG_ok c t
    rename_i n4
    have hz := skipG_zero c t hk
    refine wordedG_ok _ ?_
    rcases byte_case c with h | h | h
    · rw [wordAt_zero, List.takeWhile_cons, if_pos h, List.length_cons]
      omega
    · rw [hz.2] at h; cases h
    · exfalso
      simp only [List.mem_cons, List.mem_nil_iff, or_false] at h
      have h37 : c ≠ 37 := by have := hz.1; rw [beq_eq_false_iff_ne] at this; exact this
      have hs : ¬ (c = 91 ∨ c = 93 ∨ c = 123 ∨ c = 125) := fun h => sign_first t h hsg
      rcases h with h | h | h | h | h | h | h | h | h | h
      · exact n4 h
      · exact n1 (.inl h)
      · exact n3 h
      · exact n1 (.inr h)
      · exact hs (.inl h)
      · exact hs (.inr (.inl h))
      · exact hs (.inr (.inr (.inl h)))
      · exact hs (.inr (.inr (.inr h)))
      · exact n2 h
      · exact h37 h
/-- All tokens of a text that begins at a place; the place and the error. -/
def allG : Nat → Nat → List UInt8 → List S31 × Nat × Int
  | 0, p, r => ([], p + r.length, 0)
  | n + 1, p, r =>
    if skipG false r = r.length then ([], p + r.length, 0)
    else if (nextR (r.drop (skipG false r))).2.2.2.2 = 0 then
      (if (allG n (p + skipG false r + (nextR (r.drop (skipG false r))).2.2.2.1) (r.drop (skipG false r + (nextR (r.drop (skipG false r))).2.2.2.1))).2.2 = 0 then
        ((⟨(nextR (r.drop (skipG false r))).1, ((p + skipG false r : Nat) : Int), (nextR (r.drop (skipG false r))).2.1, (nextR (r.drop (skipG false r))).2.2.1⟩ : S31) :: (allG n (p + skipG false r + (nextR (r.drop (skipG false r))).2.2.2.1) (r.drop (skipG false r + (nextR (r.drop (skipG false r))).2.2.2.1))).1,
          (allG n (p + skipG false r + (nextR (r.drop (skipG false r))).2.2.2.1) (r.drop (skipG false r + (nextR (r.drop (skipG false r))).2.2.2.1))).2)
      else ([], (allG n (p + skipG false r + (nextR (r.drop (skipG false r))).2.2.2.1) (r.drop (skipG false r + (nextR (r.drop (skipG false r))).2.2.2.1))).2))
    else ([], p + skipG false r + (nextR (r.drop (skipG false r))).2.2.2.1, (nextR (r.drop (skipG false r))).2.2.2.2)
theorem drop_skip (r : List UInt8) (h : skipG false r ≠ r.length) : ∃ c t, r.drop (skipG false r) = c :: t ∧ skipG false (c :: t) = 0 ∧ skipG false r + (t.length + 1) = r.length := by
  have hle := skipG_le r false
  have hst := skipG_stable r false
  have hdl : (r.drop (skipG false r)).length = r.length - skipG false r := List.length_drop
  generalize r.drop (skipG false r) = d at hst hdl
  rcases d with _ | ⟨c, t⟩
  · simp only [List.length_nil] at hdl; omega
  · refine ⟨c, t, rfl, hst, ?_⟩
    rw [List.length_cons] at hdl
    omega
/-- One step, spelled by its parts. -/
theorem allG_end (n p : Nat) (r : List UInt8) (h : skipG false r = r.length) : allG n p r = ([], p + r.length, 0) := by
  cases n with
  | zero => rw [allG]
  | succ n => rw [allG, if_pos h]
theorem allG_err (n p : Nat) (r d : List UInt8) (x : NxR) (h : skipG false r ≠ r.length) (hd : r.drop (skipG false r) = d) (hx : nextR d = x) (he : x.2.2.2.2 ≠ 0) : allG (n + 1) p r = ([], p + skipG false r + x.2.2.2.1, x.2.2.2.2) := by
  subst hd; subst hx
  rw [allG, if_neg h, if_neg he]
theorem allG_tok (n p : Nat) (r d : List UInt8) (x : NxR) (y : List S31 × Nat × Int) (h : skipG false r ≠ r.length) (hd : r.drop (skipG false r) = d) (hx : nextR d = x) (he : x.2.2.2.2 = 0)
    (hy : allG n (p + skipG false r + x.2.2.2.1) (d.drop x.2.2.2.1) = y) :
    allG (n + 1) p r = if y.2.2 = 0 then ((⟨x.1, ((p + skipG false r : Nat) : Int), x.2.1, x.2.2.1⟩ : S31) :: y.1, y.2) else ([], y.2) := by
  subst hd; subst hx
  rw [List.drop_drop] at hy
  subst hy
  rw [allG, if_neg h, if_pos he]
theorem nextA_at (s : ByteArray) (i : Nat) (hi : i ≤ s.size) (r : List UInt8) (hr : s.data.toList.drop i = r) :
    nextA s (i : Int) = if skipG false r = r.length then (0, (s.size : Int), 0, ⟨#[]⟩, (s.size : Int), 0) else nxAns (i + skipG false r) (nextR (r.drop (skipG false r))) := by
  have hpl : placeN s (i : Int) = i := by unfold placeN; omega
  have hrl : r.length = s.size - i := by rw [← hr, List.length_drop, ← size_list]
  have hsk : skipN s (i : Int) = i + skipG false r := by unfold skipN; rw [hpl, hr]
  unfold nextA
  rw [hsk, ← List.drop_drop, hr]
  by_cases h : skipG false r = r.length
  · rw [if_pos h, if_pos (by omega)]
  · rw [if_neg h, if_neg (by omega)]
def allOut (acc : List S31) (y : List S31 × Nat × Int) : List S31 × Int × Int := if y.2.2 = 0 then (acc ++ y.1, (y.2.1 : Int), 0) else ([], (y.2.1 : Int), y.2.2)
theorem all_loop (s : ByteArray) (hs : s.size ≤ 60000) : ∀ (n i k : Nat) (acc : List S31), i ≤ s.size → s.size - i < n → n + 2 * s.size + 8 ≤ k → acc.length ≤ i →
    tok_All.l0 k s acc (i : Int) = some (allOut acc (allG n i (s.data.toList.drop i)))
  | 0, i, k, acc => fun _ h => by omega
  | n + 1, i, k, acc => by
    intro hi hn hk ha
    obtain ⟨k, rfl⟩ : ∃ k', k = k' + 1 := ⟨k - 1, by omega⟩
    have ih := all_loop s hs n
    have hdl : (s.data.toList.drop i).length = s.size - i := by rw [List.length_drop, ← size_list]
    have hdd : ∀ m, (s.data.toList.drop i).drop m = s.data.toList.drop (i + m) := fun m => by rw [List.drop_drop]
    generalize hr : s.data.toList.drop i = r at hdl hdd
    rw [tok_All.l0, next_eq s _ (by omega) (by omega), Option.bind_some, nextA_at s i hi r hr]
    by_cases h : skipG false r = r.length
    · rw [if_pos h, allG_end _ _ _ h]
      dsimp only
      rw [if_pos rfl, if_pos rfl]
      unfold allOut
      dsimp only
      rw [if_pos rfl, List.append_nil, hdl, show i + (s.size - i) = s.size by omega]
    rw [if_neg h]
    obtain ⟨c, t, hd, hz, hlen⟩ := drop_skip r h
    have ok := nextR_ok c t hz
    have hdd2 := hdd (skipG false r)
    rw [hd] at hdd2 ⊢
    generalize hx : nextR (c :: t) = x at ok
    have ok1 := ok.1
    rw [List.length_cons] at ok1
    unfold nxAns
    by_cases he : x.2.2.2.2 = 0
    · obtain ⟨o1, o2, o3, o4⟩ := ok.2 he
      rw [if_pos he]
      dsimp only
      have hlast := ih (i + skipG false r + x.2.2.2.1) k (acc ++ [(⟨x.1, ((i + skipG false r : Nat) : Int), x.2.1, x.2.2.1⟩ : S31)]) (by omega) (by omega) (by omega) (by rw [List.length_append, List.length_singleton]; omega)
      have hdx : s.data.toList.drop (i + skipG false r + x.2.2.2.1) = (c :: t).drop x.2.2.2.1 := by rw [hdd2, List.drop_drop]
      rw [if_pos rfl, if_neg (by omega), if_neg (by omega), if_pos (by omega), hlast, hdx]
      rw [allG_tok n i r (c :: t) x _ h hd hx he rfl]
      congr 1
      unfold allOut
      by_cases hy : (allG n (i + skipG false r + x.2.2.2.1) (List.drop x.2.2.2.1 (c :: t))).2.2 = 0
      · rw [if_pos hy, if_pos hy]
        dsimp only
        rw [if_pos hy, List.append_assoc]
        rfl
      · rw [if_neg hy, if_neg hy]
        dsimp only
        rw [if_neg hy]
    · rw [if_neg he, allG_err n i r (c :: t) x h hd hx he]
      dsimp only
      rw [if_neg he]
      unfold allOut
      dsimp only
      rw [if_neg he]
theorem all_eq (s : ByteArray) (hs : s.size ≤ 60000) {k : Nat} (hk : 3 * s.size + 10 ≤ k) : tok_All.f k s = some (allOut [] (allG (s.size + 1) 0 s.data.toList)) := by
  unfold tok_All.f
  have := all_loop s hs (s.size + 1) 0 k [] (by omega) (by omega) (by omega) (by simp)
  rw [List.drop_zero] at this
  exact this
end Go.Proofs.YtfdikkdbmlcjiaaGreatDoor.M
end
section
namespace Go.Proofs.YtfdikkdbmlcjiaaGreatDoor.M
open Go.RowKit Go.Proofs.YtfdikkdbmlcjiaaGreatDoorW.PrintWords
set_option linter.unusedVariables false
/-- The number that the digits spell, behind those that spell acc. -/
def digN (c : UInt8) : Nat := c.toNat - 48
def valD (acc : Nat) (l : List UInt8) : Nat := l.foldl (fun a c => a * 10 + digN c) acc
attribute [irreducible] valD
end Go.Proofs.YtfdikkdbmlcjiaaGreatDoor.M
end
section
namespace Go.Proofs.YtfdikkdbmlcjiaaGreatDoor.M
open Go.RowKit Go.Proofs.YtfdikkdbmlcjiaaGreatDoorW.PrintWords
set_option linter.unusedVariables false
set_option linter.unusedSimpArgs false
theorem take_no (l m : List UInt8) (h : ∀ c ∈ l, c ≠ 62) : (l ++ 62 :: m).takeWhile (fun c => c != 62) = l := by
  induction l with
  | nil => simp
  | cons c l ih =>
    have hc : (c != 62) = true := by rw [bne_iff_ne]; exact h c (by simp)
    rw [List.cons_append, List.takeWhile_cons, if_pos hc, ih (fun d hd => h d (by simp [hd]))]
theorem nextR_sign (r : List UInt8) (x : Int) (m : Nat) (h : signOf r = some (x, m)) : nextR r = (x, 0, ⟨#[]⟩, m, 0) := by unfold nextR; rw [h]
theorem nextR_cons (c : UInt8) (t : List UInt8) (h : signOf (c :: t) = none) : nextR (c :: t) = if c = 41 ∨ c = 62 then nxErr 0 3
      else if c = 47 then (2, 0, ⟨(nameGo (wordAt t 0)).toArray⟩, 1 + (wordAt t 0).length, 0)
      else if c = 60 then hexedG t
      else if c = 40 then strungG t
      else wordedG (c :: t) := by unfold nextR; rw [h]
theorem pre_one (a c : UInt8) (t : List UInt8) (h : c ≠ a) : [a].isPrefixOf (c :: t) = false := by
  rw [List.isPrefixOf]
  have : (a == c) = false := by rw [beq_eq_false_iff_ne]; exact fun e => h e.symm
  rw [this, Bool.false_and]
theorem pre_two (a b c : UInt8) (t : List UInt8) (h : c ≠ a) : [a, b].isPrefixOf (c :: t) = false := by
  rw [List.isPrefixOf]
  have : (a == c) = false := by rw [beq_eq_false_iff_ne]; exact fun e => h e.symm
  rw [this, Bool.false_and]
end Go.Proofs.YtfdikkdbmlcjiaaGreatDoor.M
end
section
namespace Go.Proofs.YtfdikkdbmlcjiaaGreatDoor.M
open Go.RowKit Go.Proofs.YtfdikkdbmlcjiaaGreatDoorW.PrintWords
set_option linter.unusedVariables false
set_option linter.unusedSimpArgs false
theorem awake4_at : hornbooklaw04_awake.f 60 = some true := by decide +kernel
theorem awake4 {k : Nat} (hk : 60 ≤ k) : hornbooklaw04_awake.f k = some true := le_rounds (g := fun k => hornbooklaw04_awake.f k) (fun k => hornbooklaw04_awake.mono k) awake4_at hk
end Go.Proofs.YtfdikkdbmlcjiaaGreatDoor.M
end
section
namespace Go.Proofs.YtfdikkdbmlcjiaaGreatDoor.M
open Go.RowKit Go.Proofs.YtfdikkdbmlcjiaaGreatDoorW.PrintWords
set_option linter.unusedVariables false
set_option linter.unusedSimpArgs false
theorem pre_app (m : List UInt8) : ∀ (s r : List UInt8), (10 : UInt8) ∉ s → s.isPrefixOf (r ++ 10 :: m) = s.isPrefixOf r
  | [], r, _ => by simp [List.isPrefixOf]
  | a :: s, [], h => by
    have ha : (a == 10) = false := by rw [beq_eq_false_iff_ne]; intro e; exact h (by rw [e]; simp)
    show (a == 10 && _) = false
    rw [ha, Bool.false_and]
  | a :: s, c :: r, h => by
    rw [List.cons_append, List.isPrefixOf, List.isPrefixOf, pre_app m s r (fun e => h (List.mem_cons_of_mem _ e))]
theorem sign_app (r m : List UInt8) : signOf (r ++ 10 :: m) = signOf r := by
  unfold signOf
  rw [pre_app m [91] r (by decide), pre_app m [93] r (by decide), pre_app m [60, 60] r (by decide), pre_app m [62, 62] r (by decide), pre_app m [123] r (by decide), pre_app m [125] r (by decide)]
theorem word_app (t m : List UInt8) : wordAt (t ++ 10 :: m) 0 = wordAt t 0 := by
  rw [wordAt_zero, wordAt_zero]
  induction t with
  | nil => rw [List.nil_append, List.takeWhile_cons, if_neg (by decide)]; rfl
  | cons c t ih => rw [List.cons_append, List.takeWhile_cons, List.takeWhile_cons, ih]
theorem cut_at (t : List UInt8) (h : 62 ∈ t) : ∃ w r, t = w ++ 62 :: r ∧ (∀ c ∈ w, c ≠ 62) := by
  induction t with
  | nil => cases h
  | cons c t ih =>
    by_cases hc : c = 62
    · exact ⟨[], t, by rw [hc]; rfl, fun c h => by cases h⟩
    · have : 62 ∈ t := by
        rcases List.mem_cons.1 h with e | e
        · exact absurd e.symm hc
        · exact e
      obtain ⟨w, r, e, hw⟩ := ih this
      exact ⟨c :: w, r, by rw [e]; rfl, fun d hd => by
        rcases List.mem_cons.1 hd with rfl | hd
        · exact hc
        · exact hw d hd⟩
theorem hexed_of (w r : List UInt8) (hw : ∀ c ∈ w, c ≠ 62) : hexedG (w ++ 62 :: r) = if (unhG [] none w).1 = 0 then (4, 0, strOfNums (unhG [] none w).2.1, w.length + 2, 0) else nxErr (1 + (w.length - (unhG [] none w).2.2.length)) 1 := by
  have hm : (62 : UInt8) ∈ w ++ 62 :: r := by simp
  have hc := cut_gt (w ++ 62 :: r)
  rw [if_pos hm, take_no _ _ hw] at hc
  unfold hexedG
  rw [hc]
  dsimp only
  rw [if_pos rfl]
theorem hexed_no (t : List UInt8) (h : 62 ∉ t) : hexedG t = nxErr (t.length + 1) 2 := by
  have hc := cut_gt t
  rw [if_neg h] at hc
  unfold hexedG
  rw [hc]
  dsimp only
  rw [if_neg (by decide)]
theorem hexed_app (t m : List UInt8) (h : (hexedG t).2.2.2.2 ≠ 2) : hexedG (t ++ 10 :: m) = hexedG t := by
  by_cases hm : 62 ∈ t
  · obtain ⟨w, r, rfl, hw⟩ := cut_at t hm
    rw [List.append_assoc, List.cons_append, hexed_of w _ hw, hexed_of w _ hw]
  · rw [hexed_no t hm] at h
    exact absurd rfl h
theorem octs_app (t m : List UInt8) : octs (t ++ 10 :: m) = octs t := by
  have h10 : isOct 10 = false := by decide
  unfold octs
  rcases t with _ | ⟨a, _ | ⟨b, _ | ⟨c, t⟩⟩⟩
  · rw [List.nil_append, List.take_succ_cons, List.takeWhile_cons, h10]; rfl
  · show ((a :: 10 :: m).take 3).takeWhile isOct = ([a] : List UInt8).takeWhile isOct
    rw [List.take_succ_cons, List.take_succ_cons, List.takeWhile_cons, List.takeWhile_cons, h10, List.takeWhile_cons]; rfl
  · show ((a :: b :: 10 :: m).take 3).takeWhile isOct = ([a, b] : List UInt8).takeWhile isOct
    rw [List.take_succ_cons, List.take_succ_cons, List.take_succ_cons, List.takeWhile_cons, List.takeWhile_cons, List.takeWhile_cons, h10, List.takeWhile_cons, List.takeWhile_cons]; rfl
  · rfl
theorem esc_app (t m : List UInt8) (h : (escG t).2 < t.length) : escG (t ++ 10 :: m) = escG t := by
  unfold escG at h ⊢
  rw [octs_app]
  split
  · rfl
  rename_i h0
  rw [if_neg h0] at h
  rcases t with _ | ⟨c, _ | ⟨d, t⟩⟩
  · exact absurd h (by decide)
  · exfalso
    dsimp only at h
    rw [List.length_singleton] at h
    split at h
    · exact absurd h (by decide)
    · split at h
      · exact absurd h (by decide)
      · exact absurd (show 1 < 1 from h) (by decide)
  · rfl
theorem line_app (c : UInt8) (t m : List UInt8) (h : lineG (c :: t) < t.length + 1) : lineG (c :: t ++ 10 :: m) = lineG (c :: t) := by
  by_cases h13 : c = 13
  · subst h13
    rcases t with _ | ⟨d, t⟩
    · exact absurd h (by decide)
    · rfl
  · rw [List.cons_append, lineG_no' c _ h13, lineG_no' c _ h13]
where lineG_no' (c : UInt8) (t : List UInt8) (h : c ≠ 13) : lineG (c :: t) = 0 := by
        unfold lineG
        rw [pre_two 13 10 c t h, pre_one 13 c t h]
        rfl
theorem strG_nil (n deep : Nat) (out : List UInt8) : strG n deep out [] = (2, [], []) := by
  cases n <;> rfl
theorem strG_app (m : List UInt8) : ∀ (n deep : Nat) (out t : List UInt8) (n' : Nat), t.length < n → t.length < n' → (strG n deep out t).1 ≠ 2 → strG n' deep out (t ++ 10 :: m) = ((strG n deep out t).1, (strG n deep out t).2.1, (strG n deep out t).2.2 ++ 10 :: m)
  | 0, deep, out, t, n' => by intro h; omega
  | n + 1, deep, out, [], n' => by intro _ _ h; exact absurd (by rw [strG_nil]) h
  | n + 1, deep, out, c :: t, n' => by
    intro hn hn' h
    have ih := strG_app m n
    rw [List.length_cons] at hn hn'
    obtain ⟨n', rfl⟩ : ∃ k, n' = k + 1 := ⟨n' - 1, by omega⟩
    have he := escG_le t
    have hl := lineG_le (c :: t)
    rw [List.length_cons] at hl
    rw [strG] at h ⊢
    rw [List.cons_append, strG]
    by_cases h92 : c = 92
    · rw [if_pos h92] at h ⊢
      rw [if_pos h92]
      by_cases h0 : (escG t).2 = 0
      · rw [if_pos h0] at h; exact absurd rfl h
      rw [if_neg h0] at h ⊢
      have hlt : (escG t).2 < t.length := by
        refine Nat.lt_of_not_le fun hge => ?_
        rw [List.drop_eq_nil_of_le hge, strG_nil] at h
        exact absurd rfl h
      rw [esc_app t m hlt, if_neg h0, List.drop_append_of_le_length (by omega)]
      exact ih _ _ _ n' (by rw [List.length_drop]; omega) (by rw [List.length_drop]; omega) h
    rw [if_neg h92] at h ⊢
    rw [if_neg h92]
    by_cases h41 : c = 41 ∧ deep = 1
    · rw [if_pos h41, if_pos h41]
    rw [if_neg h41] at h ⊢
    rw [if_neg h41]
    by_cases h40 : c = 40 ∧ deep = 32
    · rw [if_pos h40, if_pos h40]; rfl
    rw [if_neg h40] at h ⊢
    rw [if_neg h40]
    by_cases h0 : 0 < lineG (c :: t)
    · rw [if_pos h0] at h ⊢
      have hlt : lineG (c :: t) < t.length + 1 := by
        refine Nat.lt_of_not_le fun hge => ?_
        rw [List.drop_eq_nil_of_le (by rw [List.length_cons]; exact hge), strG_nil] at h
        exact absurd rfl h
      have hla := line_app c t m hlt
      rw [List.cons_append] at hla
      rw [hla, if_pos h0, ← List.cons_append, List.drop_append_of_le_length (by rw [List.length_cons]; omega)]
      exact ih _ _ _ n' (by rw [List.length_drop, List.length_cons]; omega) (by rw [List.length_drop, List.length_cons]; omega) h
    · rw [if_neg h0] at h ⊢
      have hla := line_app c t m (by omega)
      rw [List.cons_append] at hla
      rw [hla, if_neg h0]
      exact ih _ _ _ n' (by omega) (by omega) h
theorem strung_app (t m : List UInt8) (h : (strungG t).2.2.2.2 ≠ 2) : strungG (t ++ 10 :: m) = strungG t := by
  have h2 : (strG (t.length + 1) 1 [] t).1 ≠ 2 := by
    intro e
    unfold strungG at h
    rw [if_neg (by rw [e]; decide)] at h
    exact h e
  have hr := strG_rem (t.length + 1) 1 [] t
  have := strG_app m (t.length + 1) 1 [] t ((t ++ 10 :: m).length + 1) (by omega) (by rw [List.length_append]; omega) h2
  unfold strungG
  rw [this]
  dsimp only
  rw [List.length_append, List.length_append, show t.length + (10 :: m).length + 1 - ((strG (t.length + 1) 1 [] t).2.2.length + (10 :: m).length) = t.length + 1 - (strG (t.length + 1) 1 [] t).2.2.length by omega]
theorem worded_app (r m : List UInt8) : wordedG (r ++ 10 :: m) = wordedG r := by
  unfold wordedG
  rw [word_app]
theorem next_app (c : UInt8) (t m : List UInt8) (h : (nextR (c :: t)).2.2.2.2 ≠ 2) : nextR (c :: t ++ 10 :: m) = nextR (c :: t) := by
  have hs := sign_app (c :: t) m
  cases hsg : signOf (c :: t) with
  | some xm =>
    obtain ⟨x, l⟩ := xm
    rw [nextR_sign _ _ _ hsg, nextR_sign _ _ _ (hs.trans hsg)]
  | none =>
    rw [hsg] at hs
    rw [nextR_cons c t hsg] at h ⊢
    rw [List.cons_append] at hs ⊢
    rw [nextR_cons c _ hs]
    by_cases n1 : c = 41 ∨ c = 62
    · rw [if_pos n1, if_pos n1]
    rw [if_neg n1] at h ⊢
    rw [if_neg n1]
    by_cases n2 : c = 47
    · rw [if_pos n2, if_pos n2, word_app]
    rw [if_neg n2] at h ⊢
    rw [if_neg n2]
    by_cases n3 : c = 60
    · rw [if_pos n3] at h ⊢
      rw [if_pos n3]; exact hexed_app t m h
    rw [if_neg n3] at h ⊢
    rw [if_neg n3]
    by_cases n4 : c = 40
    · rw [if_pos n4] at h ⊢
      rw [if_pos n4]; exact strung_app t m h
    rw [if_neg n4, if_neg n4]
    exact worded_app (c :: t) m
theorem skip_app (m : List UInt8) : ∀ (r : List UInt8) (b : Bool), skipG b r < r.length → skipG b (r ++ 10 :: m) = skipG b r
  | [], b, h => by simp at h
  | c :: r, true, h => by
    rw [List.cons_append, skipG, skipG]
    rw [skipG, List.length_cons] at h
    rw [skip_app m r _ (by omega)]
  | c :: r, false, h => by
    rw [List.cons_append, skipG, skipG]
    rw [skipG, List.length_cons] at h
    by_cases h1 : (c == 37) = true
    · rw [if_pos h1] at h ⊢
      rw [if_pos h1, skip_app m r _ (by omega)]
    rw [if_neg h1] at h ⊢
    rw [if_neg h1]
    by_cases h2 : (clsOf c.toNat == 1) = true
    · rw [if_pos h2] at h ⊢
      rw [if_pos h2, skip_app m r _ (by omega)]
    · rw [if_neg h2, if_neg h2]
/-- An error stays, whatever stands behind. -/
theorem all_app (m : List UInt8) : ∀ (n p : Nat) (r : List UInt8) (n' : Nat), r.length < n → r.length < n' → (allG n p r).2.2 ≠ 0 → (allG n p r).2.2 ≠ 2 → (allG n' p (r ++ 10 :: m)).2 = (allG n p r).2
  | 0, p, r, n' => by intro h; omega
  | n + 1, p, r, n' => by
    intro hn hn' h0 h2
    obtain ⟨n', rfl⟩ : ∃ k, n' = k + 1 := ⟨n' - 1, by omega⟩
    by_cases h : skipG false r = r.length
    · rw [allG_end _ _ _ h] at h0; exact absurd rfl h0
    obtain ⟨c, t, hd, hz, hlen⟩ := drop_skip r h
    have hsa := skip_app m r false (by omega)
    have hne : skipG false (r ++ 10 :: m) ≠ (r ++ 10 :: m).length := by rw [hsa, List.length_append]; omega
    have hd' : (r ++ 10 :: m).drop (skipG false (r ++ 10 :: m)) = c :: t ++ 10 :: m := by rw [hsa, List.drop_append_of_le_length (by omega), hd]
    have ok := nextR_ok c t hz
    have happ := next_app c t m
    generalize hx : nextR (c :: t) = x at ok happ
    by_cases he : x.2.2.2.2 = 0
    · obtain ⟨o1, o2, o3, o4⟩ := ok.2 he
      have ok1 := ok.1
      rw [List.length_cons] at ok1
      have hx' := happ (by rw [he]; decide)
      have hdr : (c :: t ++ 10 :: m).drop x.2.2.2.1 = (c :: t).drop x.2.2.2.1 ++ 10 :: m := List.drop_append_of_le_length (by rw [List.length_cons]; omega)
      have hy' := allG_tok n' p (r ++ 10 :: m) _ x _ hne hd' hx' he rfl
      rw [hsa, hdr] at hy'
      rw [allG_tok n p r (c :: t) x _ h hd hx he rfl] at h0 h2 ⊢
      have ih := all_app m n (p + skipG false r + x.2.2.2.1) ((c :: t).drop x.2.2.2.1) n' (by rw [List.length_drop, List.length_cons]; omega) (by rw [List.length_drop, List.length_cons]; omega)
      rw [hy']
      generalize allG n (p + skipG false r + x.2.2.2.1) ((c :: t).drop x.2.2.2.1) = y at h0 h2 ih ⊢
      have key : y.2.2 ≠ 0 ∧ y.2.2 ≠ 2 := by
        by_cases hy : y.2.2 = 0
        · rw [if_pos hy] at h0; exact absurd hy h0
        · rw [if_neg hy] at h0 h2; exact ⟨h0, h2⟩
      have ih2 := ih key.1 key.2
      rw [if_neg key.1, if_neg (by rw [ih2]; exact key.1)]
      exact ih2
    · rw [allG_err n p r (c :: t) x h hd hx he] at h0 h2 ⊢
      rw [allG_err n' p _ _ x hne hd' (happ h2) he, hsa]
theorem take_while {p : UInt8 → Bool} : ∀ (l : List UInt8) (j : Nat), (l.take j).takeWhile p = (l.takeWhile p).take j
  | [], j => by simp
  | c :: l, 0 => by simp
  | c :: l, j + 1 => by
    rw [List.take_succ_cons, List.takeWhile_cons, List.takeWhile_cons, take_while l j]
    split
    · rw [List.take_succ_cons]
    · simp
theorem while_take {p : UInt8 → Bool} (l : List UInt8) (j : Nat) (h : (l.takeWhile p).length ≤ j) : (l.take j).takeWhile p = l.takeWhile p := by
  rw [take_while, List.take_of_length_le h]
theorem sign_cut (r : List UInt8) (j : Nat) (h : signOf r = none) : signOf (r.take j) = none := by
  cases hsg : signOf (r.take j) with
  | none => rfl
  | some xm =>
    obtain ⟨x, l⟩ := xm
    obtain ⟨s, hs, hp, rfl⟩ := signOf_len _ _ _ hsg
    have : s.isPrefixOf r = true := List.isPrefixOf_iff_prefix.2 ((List.isPrefixOf_iff_prefix.1 hp).trans (List.take_prefix j r))
    rw [signOf_hit hs this] at h
    cases h
theorem sign_keep (r : List UInt8) (x : Int) (l j : Nat) (h : signOf r = some (x, l)) (hj : l ≤ j) : signOf (r.take j) = some (x, l) := by
  obtain ⟨s, hs, hp, rfl⟩ := signOf_len _ _ _ h
  refine signOf_hit hs (List.isPrefixOf_iff_prefix.2 ?_)
  exact List.prefix_take_iff.2 ⟨List.isPrefixOf_iff_prefix.1 hp, hj⟩
theorem octs_cut (t : List UInt8) (j : Nat) (h : (octs t).length ≤ j) : octs (t.take j) = octs t := by
  unfold octs at h ⊢
  rw [List.take_take, Nat.min_comm, ← List.take_take, while_take _ _ h]
theorem octs_none (t : List UInt8) (j : Nat) (h : ¬ 0 < (octs t).length) : ¬ 0 < (octs (t.take j)).length := by
  rw [octs_cut t j (by omega)]; exact h
theorem esc_cut (t : List UInt8) (j : Nat) (h : (escG t).2 ≤ j) (h1 : (escG t).2 ≠ 0) : escG (t.take j) = escG t := by
  have ho := octs_cut t j
  have hn := octs_none t j
  unfold escG at h h1 ⊢
  by_cases h0 : 0 < (octs t).length
  · rw [if_pos h0] at h
    rw [ho h, if_pos h0, if_pos h0]
  rw [if_neg h0] at h h1
  rw [if_neg h0, if_neg (hn h0)]
  rcases t with _ | ⟨c, t⟩
  · exact absurd rfl h1
  rcases j with _ | j
  · omega
  rw [List.take_succ_cons]
  dsimp only at h h1 ⊢
  by_cases hp : [13, 10].isPrefixOf (c :: t) = true
  · rw [if_pos hp] at h
    have hp2 : [13, 10].isPrefixOf (c :: t.take j) = true := by
      rw [← List.take_succ_cons]
      exact List.isPrefixOf_iff_prefix.2 (List.prefix_take_iff.2 ⟨List.isPrefixOf_iff_prefix.1 hp, h⟩)
    rw [if_pos hp, if_pos hp2]
  · have hp2 : ¬ [13, 10].isPrefixOf (c :: t.take j) = true := by
      rw [← List.take_succ_cons]
      intro e
      exact hp (List.isPrefixOf_iff_prefix.2 ((List.isPrefixOf_iff_prefix.1 e).trans (List.take_prefix _ _)))
    rw [if_neg hp, if_neg hp2]
theorem line_cut (c : UInt8) (t : List UInt8) (j : Nat) (h : lineG (c :: t) ≤ j + 1) : lineG (c :: t.take j) = lineG (c :: t) := by
  unfold lineG at h ⊢
  by_cases hp : [13, 10].isPrefixOf (c :: t) = true
  · rw [if_pos hp] at h
    have hp2 : [13, 10].isPrefixOf (c :: t.take j) = true := by
      rw [← List.take_succ_cons]
      exact List.isPrefixOf_iff_prefix.2 (List.prefix_take_iff.2 ⟨List.isPrefixOf_iff_prefix.1 hp, h⟩)
    rw [if_pos hp, if_pos hp2]
  · have hp2 : ¬ [13, 10].isPrefixOf (c :: t.take j) = true := by
      rw [← List.take_succ_cons]
      intro e
      exact hp (List.isPrefixOf_iff_prefix.2 ((List.isPrefixOf_iff_prefix.1 e).trans (List.take_prefix _ _)))
    rw [if_neg hp, if_neg hp2]
    rfl
theorem take_drop (t : List UInt8) (e j : Nat) : (t.take j).drop e = (t.drop e).take (j - e) := by
  rw [List.drop_take]
theorem ite_same {α : Type} {P Q : Prop} [Decidable P] [Decidable Q] {a b c : α} (h : P ↔ Q) (e : a = b) : (if P then a else c) = if Q then b else c := by
  subst e
  by_cases hp : P
  · rw [if_pos hp, if_pos (h.1 hp)]
  · rw [if_neg hp, if_neg (fun q => hp (h.2 q))]
/-- A Str that is cut behind what was taken of it; an error's text is too short then. -/
theorem strG_cut : ∀ (n deep : Nat) (out t : List UInt8) (n' j : Nat), t.length < n → j < n' → (strG n deep out t).1 ≠ 2 → t.length - (strG n deep out t).2.2.length ≤ j → j ≤ t.length →
    strG n' deep out (t.take j) = if (strG n deep out t).1 = 0 ∨ t.length - (strG n deep out t).2.2.length < j then ((strG n deep out t).1, (strG n deep out t).2.1, (strG n deep out t).2.2.take (j - (t.length - (strG n deep out t).2.2.length))) else (2, [], [])
  | 0, deep, out, t, n', j => by intro h; omega
  | n + 1, deep, out, [], n', j => by intro _ _ h; exact absurd (by rw [strG_nil]) h
  | n + 1, deep, out, c :: t, n', j => by
    intro hn hn' h hj hj2
    have ih := strG_cut n
    have hrem := strG_rem n
    rw [List.length_cons] at hn hj2
    obtain ⟨n', rfl⟩ : ∃ k, n' = k + 1 := ⟨n' - 1, by omega⟩
    have he := escG_le t
    have hl := lineG_le (c :: t)
    rw [List.length_cons] at hl
    rw [strG] at h hj ⊢
    by_cases h92 : c = 92
    · rw [if_pos h92] at h hj ⊢
      by_cases h0 : (escG t).2 = 0
      · rw [if_pos h0] at h; exact absurd rfl h
      rw [if_neg h0] at h hj ⊢
      have hr := hrem deep (out ++ (escG t).1) (t.drop (escG t).2)
      rw [List.length_drop] at hr
      rw [List.length_cons] at hj ⊢
      obtain ⟨j, rfl⟩ : ∃ i, j = i + 1 := ⟨j - 1, by omega⟩
      have ih2 := ih deep (out ++ (escG t).1) (t.drop (escG t).2) n' (j - (escG t).2) (by rw [List.length_drop]; omega) (by omega) h (by rw [List.length_drop]; omega) (by rw [List.length_drop]; omega)
      rw [List.take_succ_cons, strG, if_pos h92, esc_cut t j (by omega) h0, if_neg h0, take_drop, ih2, List.length_drop]
      generalize strG n deep (out ++ (escG t).1) (t.drop (escG t).2) = x at hj hr h ⊢
      exact ite_same (or_congr Iff.rfl (by omega)) (by rw [show j + 1 - (t.length + 1 - x.2.2.length) = j - (escG t).2 - (t.length - (escG t).2 - x.2.2.length) by omega])
    rw [if_neg h92] at h hj ⊢
    by_cases h41 : c = 41 ∧ deep = 1
    · rw [if_pos h41] at h hj ⊢
      dsimp only at hj ⊢
      rw [List.length_cons] at hj ⊢
      obtain ⟨j, rfl⟩ : ∃ i, j = i + 1 := ⟨j - 1, by omega⟩
      rw [List.take_succ_cons, strG, if_neg h92, if_pos h41, if_pos (.inl rfl), show j + 1 - (t.length + 1 - t.length) = j by omega]
    rw [if_neg h41] at h hj ⊢
    by_cases h40 : c = 40 ∧ deep = 32
    · rw [if_pos h40] at h hj ⊢
      dsimp only at hj ⊢
      rw [Nat.sub_self] at hj ⊢
      rcases j with _ | j
      · rw [List.take_zero, strG_nil, if_neg (by rintro (e | e); exact absurd e (by decide); omega)]
      · rw [List.take_succ_cons, strG, if_neg h92, if_neg h41, if_pos h40, if_pos (.inr (by omega)), Nat.sub_zero, List.take_succ_cons]
    rw [if_neg h40] at h hj ⊢
    by_cases h0 : 0 < lineG (c :: t)
    · rw [if_pos h0] at h hj ⊢
      have hr := hrem (deepG c deep) (out ++ [10]) ((c :: t).drop (lineG (c :: t)))
      rw [List.length_drop, List.length_cons] at hr
      rw [List.length_cons] at hj ⊢
      obtain ⟨j, rfl⟩ : ∃ i, j = i + 1 := ⟨j - 1, by omega⟩
      have hlc := line_cut c t j (by omega)
      have ih2 := ih (deepG c deep) (out ++ [10]) ((c :: t).drop (lineG (c :: t))) n' (j + 1 - lineG (c :: t)) (by rw [List.length_drop, List.length_cons]; omega) (by omega) h (by rw [List.length_drop, List.length_cons]; omega) (by rw [List.length_drop, List.length_cons]; omega)
      rw [List.take_succ_cons, strG, if_neg h92, if_neg h41, if_neg h40, hlc, if_pos h0, ← List.take_succ_cons, take_drop, ih2, List.length_drop, List.length_cons]
      generalize strG n (deepG c deep) (out ++ [10]) ((c :: t).drop (lineG (c :: t))) = x at hj hr h ⊢
      exact ite_same (or_congr Iff.rfl (by omega)) (by rw [show j + 1 - (t.length + 1 - x.2.2.length) = j + 1 - lineG (c :: t) - (t.length + 1 - lineG (c :: t) - x.2.2.length) by omega])
    · rw [if_neg h0] at h hj ⊢
      have hr := hrem (deepG c deep) (out ++ [c]) t
      rw [List.length_cons] at hj ⊢
      obtain ⟨j, rfl⟩ : ∃ i, j = i + 1 := ⟨j - 1, by omega⟩
      have hlc := line_cut c t j (by omega)
      have ih2 := ih (deepG c deep) (out ++ [c]) t n' j (by omega) (by omega) h (by omega) (by omega)
      rw [List.take_succ_cons, strG, if_neg h92, if_neg h41, if_neg h40, hlc, if_neg h0, ih2]
      generalize strG n (deepG c deep) (out ++ [c]) t = x at hj hr h ⊢
      exact ite_same (or_congr Iff.rfl (by omega)) (by rw [show j + 1 - (t.length + 1 - x.2.2.length) = j - (t.length - x.2.2.length) by omega])
theorem strung_err (t : List UInt8) : (strungG t).2.2.2.2 = (strG (t.length + 1) 1 [] t).1 := by
  unfold strungG
  split
  · rename_i h; rw [h]
  · rfl
theorem strung_len (t : List UInt8) : (strungG t).2.2.2.1 = t.length + 1 - (strG (t.length + 1) 1 [] t).2.2.length := by
  unfold strungG
  split <;> rfl
theorem lexInt_kinds (l : List UInt8) : (lexInt l).2 = 0 ∨ (lexInt l).2 = 3 ∨ (lexInt l).2 = 4 := by
  unfold lexInt
  split
  · split
    · exact .inl rfl
    · exact .inr (.inr rfl)
  · exact .inr (.inl rfl)
/-- A token that was read is read where the text is cut behind it. -/
theorem next_keep (c : UInt8) (t : List UInt8) (j : Nat) (he : (nextR (c :: t)).2.2.2.2 = 0) (hj : (nextR (c :: t)).2.2.2.1 ≤ j + 1) : nextR (c :: t.take j) = nextR (c :: t) := by
  cases hsg : signOf (c :: t) with
  | some xm =>
    obtain ⟨x, l⟩ := xm
    rw [nextR_sign _ _ _ hsg] at hj ⊢
    have := sign_keep (c :: t) x l (j + 1) hsg hj
    rw [List.take_succ_cons] at this
    exact nextR_sign _ _ _ this
  | none =>
    have hs := sign_cut (c :: t) (j + 1) hsg
    rw [List.take_succ_cons] at hs
    rw [nextR_cons c t hsg] at he hj ⊢
    rw [nextR_cons c _ hs]
    by_cases n1 : c = 41 ∨ c = 62
    · rw [if_pos n1, if_pos n1]
    rw [if_neg n1] at he hj ⊢
    rw [if_neg n1]
    by_cases n2 : c = 47
    · rw [if_pos n2] at hj ⊢
      dsimp only at hj
      rw [wordAt_zero] at hj
      rw [if_pos n2, wordAt_zero, wordAt_zero, while_take t j (by omega)]
    rw [if_neg n2] at he hj ⊢
    rw [if_neg n2]
    by_cases n3 : c = 60
    · rw [if_pos n3] at he hj ⊢
      rw [if_pos n3]
      by_cases hm : 62 ∈ t
      · obtain ⟨w, r, rfl, hw⟩ := cut_at t hm
        rw [hexed_of w r hw] at he hj ⊢
        split at he
        · rename_i h0
          rw [if_pos h0] at hj ⊢
          dsimp only at hj
          have e : (w ++ 62 :: r).take j = w ++ 62 :: r.take (j - w.length - 1) := by
            rw [List.take_append, List.take_of_length_le (by omega)]
            congr 1
            obtain ⟨i, hi⟩ : ∃ i, j - w.length = i + 1 := ⟨j - w.length - 1, by omega⟩
            rw [hi, List.take_succ_cons]
            rfl
          rw [e, hexed_of w _ hw, if_pos h0]
        · exact absurd (show (1 : Int) = 0 from he) (by decide)
      · rw [hexed_no t hm] at he
        exact absurd (show (2 : Int) = 0 from he) (by decide)
    rw [if_neg n3] at he hj ⊢
    rw [if_neg n3]
    by_cases n4 : c = 40
    · rw [if_pos n4] at he hj ⊢
      rw [if_pos n4]
      rw [strung_err] at he
      rw [strung_len] at hj
      by_cases hjl : t.length ≤ j
      · rw [List.take_of_length_le hjl]
      have hrem := strG_rem (t.length + 1) 1 [] t
      have hc := strG_cut (t.length + 1) 1 [] t (j + 1) j (by omega) (by omega) (by rw [he]; decide) (by omega) (by omega)
      rw [if_pos (.inl he), he] at hc
      have hlen : (t.take j).length = j := by rw [List.length_take]; omega
      unfold strungG
      rw [hlen, hc, if_pos rfl, if_pos he]
      dsimp only
      rw [List.length_take]
      congr 4
      omega
    rw [if_neg n4] at he hj ⊢
    rw [if_neg n4]
    have hw : wordAt (c :: t.take j) 0 = wordAt (c :: t) 0 := by
      rw [wordAt_zero, wordAt_zero, ← List.take_succ_cons]
      refine while_take _ _ ?_
      rw [← wordAt_zero]
      unfold wordedG at he hj
      split at he
      · rename_i h0; rw [if_pos h0] at hj; exact hj
      · rename_i h0
        split at he
        · rename_i h3; rw [if_neg h0, if_pos h3] at hj; exact hj
        · exact absurd he h0
    unfold wordedG
    rw [hw]
/-- What stands ahead of an error is too short, or ends there. -/
theorem next_short (c : UInt8) (t : List UInt8) (h0 : (nextR (c :: t)).2.2.2.2 ≠ 0) (h2 : (nextR (c :: t)).2.2.2.2 ≠ 2) (h4 : (nextR (c :: t)).2.2.2.2 ≠ 4) :
    (nextR (c :: t)).2.2.2.1 = 0 ∨ ∃ j, (nextR (c :: t)).2.2.2.1 = j + 1 ∧ (nextR (c :: t.take j)).2.2.2.2 = 2 := by
  cases hsg : signOf (c :: t) with
  | some xm =>
    obtain ⟨x, l⟩ := xm
    rw [nextR_sign _ _ _ hsg] at h0
    exact absurd rfl h0
  | none =>
    have hs := fun j => sign_cut (c :: t) (j + 1) hsg
    simp only [List.take_succ_cons] at hs
    have hc := fun j => nextR_cons c (t.take j) (hs j)
    rw [nextR_cons c t hsg] at h0 h2 h4 ⊢
    by_cases n1 : c = 41 ∨ c = 62
    · rw [if_pos n1]; exact .inl rfl
    rw [if_neg n1] at h0 h2 h4 ⊢
    by_cases n2 : c = 47
    · rw [if_pos n2] at h0; exact absurd rfl h0
    rw [if_neg n2] at h0 h2 h4 ⊢
    by_cases n3 : c = 60
    · rw [if_pos n3] at h0 h2 h4 ⊢
      by_cases hm : 62 ∈ t
      · obtain ⟨w, r, rfl, hw⟩ := cut_at t hm
        rw [hexed_of w r hw] at h0 h2 ⊢
        by_cases hu : (unhG [] none w).1 = 0
        · rw [if_pos hu] at h0; exact absurd rfl h0
        rw [if_neg hu]
        refine .inr ⟨w.length - (unhG [] none w).2.2.length, by show 1 + _ = _; omega, ?_⟩
        rw [hc, if_neg n1, if_neg n2, if_pos n3]
        rw [hexed_no _ (fun hmem => ?_)]
        · rfl
        · rw [List.take_append_of_le_length (by omega)] at hmem
          exact hw 62 (List.mem_of_mem_take hmem) rfl
      · rw [hexed_no t hm] at h2
        exact absurd rfl h2
    rw [if_neg n3] at h0 h2 h4 ⊢
    by_cases n4 : c = 40
    · rw [if_pos n4] at h0 h2 h4 ⊢
      rw [strung_err] at h0 h2
      have hrem := strG_rem (t.length + 1) 1 [] t
      rw [strung_len]
      refine .inr ⟨t.length - (strG (t.length + 1) 1 [] t).2.2.length, by omega, ?_⟩
      rw [hc, if_neg n1, if_neg n2, if_neg n3, if_pos n4, strung_err]
      have hlen : (t.take (t.length - (strG (t.length + 1) 1 [] t).2.2.length)).length = t.length - (strG (t.length + 1) 1 [] t).2.2.length := by rw [List.length_take]; omega
      rw [hlen, strG_cut (t.length + 1) 1 [] t _ (t.length - (strG (t.length + 1) 1 [] t).2.2.length) (by omega) (by omega) h2 (by omega) (by omega), if_neg (by rintro (e | e); exact h0 e; omega)]
    rw [if_neg n4] at h0 h2 h4
    unfold wordedG at h0 h4
    rcases lexInt_kinds (wordAt (c :: t) 0) with e | e | e
    · rw [if_pos e] at h0; exact absurd rfl h0
    · rw [if_neg (by rw [e]; decide), if_pos e] at h0; exact absurd rfl h0
    · rw [if_neg (by rw [e]; decide), if_neg (by rw [e]; decide), e] at h4; exact absurd rfl h4
theorem skip_cut : ∀ (r : List UInt8) (b : Bool) (j : Nat), skipG b (r.take j) = min j (skipG b r)
  | [], b, j => by cases b <;> simp [skipG]
  | c :: r, b, 0 => by cases b <;> simp [skipG]
  | c :: r, true, j + 1 => by
    rw [List.take_succ_cons, skipG, skipG, skip_cut r _ j]; omega
  | c :: r, false, j + 1 => by
    rw [List.take_succ_cons, skipG, skipG, skip_cut r true j, skip_cut r false j]
    split
    · omega
    · split <;> omega
theorem all_at : ∀ (n p : Nat) (r : List UInt8), p ≤ (allG n p r).2.1 ∧ (allG n p r).2.1 ≤ p + r.length
  | 0, p, r => by rw [allG]; dsimp only; omega
  | n + 1, p, r => by
    by_cases h : skipG false r = r.length
    · rw [allG_end _ _ _ h]; dsimp only; omega
    obtain ⟨c, t, hd, hz, hlen⟩ := drop_skip r h
    have ok := nextR_ok c t hz
    generalize hx : nextR (c :: t) = x at ok
    have ok1 := ok.1
    rw [List.length_cons] at ok1
    by_cases he : x.2.2.2.2 = 0
    · have ih := all_at n (p + skipG false r + x.2.2.2.1) ((c :: t).drop x.2.2.2.1)
      rw [List.length_drop, List.length_cons] at ih
      rw [allG_tok n p r (c :: t) x _ h hd hx he rfl]
      split <;> (dsimp only; omega)
    · rw [allG_err n p r (c :: t) x h hd hx he]
      dsimp only; omega
/-- What stands ahead of an error may be read, or is too short. -/
theorem all_cut : ∀ (n p : Nat) (r : List UInt8) (n' : Nat), r.length < n → (allG n p r).2.1 - p < n' → (allG n p r).2.2 ≠ 0 → (allG n p r).2.2 ≠ 2 → (allG n p r).2.2 ≠ 4 →
    (allG n' p (r.take ((allG n p r).2.1 - p))).2.2 = 0 ∨ (allG n' p (r.take ((allG n p r).2.1 - p))).2.2 = 2
  | 0, p, r, n' => by intro h; omega
  | n + 1, p, r, n' => by
    intro hn hn' h0 h2 h4
    obtain ⟨n', rfl⟩ : ∃ k, n' = k + 1 := ⟨n' - 1, by omega⟩
    by_cases h : skipG false r = r.length
    · rw [allG_end _ _ _ h] at h0; exact absurd rfl h0
    obtain ⟨c, t, hd, hz, hlen⟩ := drop_skip r h
    have ok := nextR_ok c t hz
    have hkeep := next_keep c t
    have hshort := next_short c t
    generalize hx : nextR (c :: t) = x at ok hkeep hshort
    have ok1 := ok.1
    rw [List.length_cons] at ok1
    have hskJ : ∀ J, skipG false r ≤ J → skipG false (r.take J) = skipG false r := fun J hJ => by rw [skip_cut]; omega
    have hdrJ : ∀ j, (r.take (skipG false r + (j + 1))).drop (skipG false r) = c :: t.take j := fun j => by
      rw [take_drop, hd, show skipG false r + (j + 1) - skipG false r = j + 1 by omega, List.take_succ_cons]
    have hlJ : ∀ J, J ≤ r.length → (r.take J).length = J := fun J hJ => by rw [List.length_take]; omega
    by_cases he : x.2.2.2.2 = 0
    · obtain ⟨o1, o2, o3, o4⟩ := ok.2 he
      rw [allG_tok n p r (c :: t) x _ h hd hx he rfl] at hn' h0 h2 h4 ⊢
      have ih := all_cut n (p + skipG false r + x.2.2.2.1) ((c :: t).drop x.2.2.2.1) n'
      have hat := all_at n (p + skipG false r + x.2.2.2.1) ((c :: t).drop x.2.2.2.1)
      rw [List.length_drop, List.length_cons] at ih hat
      generalize allG n (p + skipG false r + x.2.2.2.1) ((c :: t).drop x.2.2.2.1) = y at hn' h0 h2 h4 ih hat ⊢
      have hy : y.2.2 ≠ 0 := by
        intro hy; rw [if_pos hy] at h0; exact h0 hy
      rw [if_neg hy] at hn' h0 h2 h4 ⊢
      dsimp only at hn' h0 h2 h4 ⊢
      have ih2 := ih (by omega) (by omega) h0 h2 h4
      obtain ⟨j, hj⟩ : ∃ j, y.2.1 - p = skipG false r + (j + 1) := ⟨y.2.1 - p - skipG false r - 1, by omega⟩
      have hxk := hkeep j he (by omega)
      have hdd : (c :: t.take j).drop x.2.2.2.1 = ((c :: t).drop x.2.2.2.1).take (y.2.1 - (p + skipG false r + x.2.2.2.1)) := by
        rw [← List.take_succ_cons, take_drop]
        congr 1
        omega
      have hst := allG_tok n' p (r.take (y.2.1 - p)) (c :: t.take j) x _ (by rw [hj, hskJ _ (by omega), hlJ _ (by omega)]; omega) (by rw [hj, hskJ _ (by omega), hdrJ]) hxk he rfl
      rw [hskJ _ (by omega), hdd] at hst
      rw [hst]
      split
      · rename_i hz0; exact .inl hz0
      · exact ih2
    · rw [allG_err n p r (c :: t) x h hd hx he] at hn' h0 h2 h4 ⊢
      dsimp only at hn' h0 h2 h4 ⊢
      rcases hshort h0 h2 h4 with e | ⟨j, e, e2⟩
      · rw [e, show p + skipG false r + 0 - p = skipG false r by omega]
        refine .inl ?_
        rw [allG_end _ _ _ (by rw [hskJ _ (by omega), hlJ _ (by omega)])]
      · rw [e, show p + skipG false r + (j + 1) - p = skipG false r + (j + 1) by omega]
        refine .inr ?_
        rw [allG_err n' p _ (c :: t.take j) _ (by rw [hskJ _ (by omega), hlJ _ (by omega)]; omega) (by rw [hskJ _ (by omega), hdrJ]) rfl (by rw [e2]; decide)]
        exact e2
end Go.Proofs.YtfdikkdbmlcjiaaGreatDoor.M
end
section
namespace Go.Proofs.YtfdikkdbmlcjiaaGreatDoor.M
open Go.RowKit Go.Proofs.YtfdikkdbmlcjiaaGreatDoorW.PrintWords
set_option linter.unusedVariables false
set_option linter.unusedSimpArgs false
theorem allOut_place (y : List S31 × Nat × Int) : (allOut [] y).2.1 = (y.2.1 : Int) := by unfold allOut; split <;> rfl
theorem allOut_err (y : List S31 × Nat × Int) : (allOut [] y).2.2 = y.2.2 := by
  unfold allOut; split
  · rename_i h; exact h.symm
  · rfl
theorem TokErrors : hornbooklaw04_TokErrors.Pure := by
  intro a0 a1 h0 h1
  obtain ⟨k, hk⟩ : ∃ k : Nat, 100000 ≤ k := ⟨100000, Nat.le_refl _⟩
  refine ⟨k + 2, ?_⟩
  unfold hornbooklaw04_TokErrors.f
  rw [awake4 (by omega), Option.bind_some]
  by_cases hs : (a0.size : Int) > 300
  · rw [if_pos hs, hornbooklaw04_TokErrors.j0, if_pos rfl]
  rw [if_neg hs]
  by_cases hs1 : (a1.size : Int) > 300
  · rw [decide_eq_true hs1, hornbooklaw04_TokErrors.j0, if_pos rfl]
  rw [decide_eq_false hs1, hornbooklaw04_TokErrors.j0, if_neg (by decide), all_eq a0 (by omega) (by omega), Option.bind_some, allOut_place, allOut_err]
  have hat := all_at (a0.size + 1) 0 a0.data.toList
  have hcut := all_cut (a0.size + 1) 0 a0.data.toList
  have happ := all_app a1.data.toList (a0.size + 1) 0 a0.data.toList
  rw [← size_list] at hat hcut happ
  generalize allG (a0.size + 1) 0 a0.data.toList = y at hat hcut happ
  by_cases e0 : y.2.2 = 0
  · rw [if_pos e0, hornbooklaw04_TokErrors.j1, if_pos rfl]
  rw [if_neg e0]
  by_cases e2 : y.2.2 = 2
  · rw [e2, hornbooklaw04_TokErrors.j1, if_pos (by decide)]
  have hx : a0 ++ (⟨#[10]⟩ : ByteArray) ++ a1 = ⟨(a0.data.toList ++ 10 :: a1.data.toList).toArray⟩ := by
    rw [ba_eta (a0 ++ (⟨#[10]⟩ : ByteArray) ++ a1)]
    simp
  have hxs := ba_size (a0.data.toList ++ 10 :: a1.data.toList)
  rw [List.length_append, List.length_cons, ← size_list, ← size_list] at hxs
  have h10 : (a0 ++ (⟨#[10]⟩ : ByteArray)).size = a0.size + 1 := by rw [ByteArray.size_append]; rfl
  have hxx : a0.extract 0 ((y.2.1 : Int)).toNat = ⟨(a0.data.toList.take y.2.1).toArray⟩ := by rw [ext_mid, Int.toNat_natCast]; simp
  have hxz := ba_size (a0.data.toList.take y.2.1)
  rw [List.length_take, ← size_list] at hxz
  rw [hornbooklaw04_TokErrors.j1, if_neg (by rw [beq_iff_eq]; exact e2), if_pos (by omega), if_pos (by omega), hx, all_eq _ (by omega) (by omega), Option.bind_some, if_neg (by omega), if_neg (by omega), if_pos (by omega), if_pos (by omega), hxx, all_eq _ (by omega) (by omega), Option.bind_some,
    allOut_place, allOut_err, allOut_err, ba_list, ba_list, hxs, hxz]
  have ha := happ (a0.size + (a1.size + 1) + 1) (by omega) (by omega) e0 e2
  rw [ha, if_pos rfl, if_pos rfl, if_pos rfl]
  by_cases e4 : y.2.2 = 4
  · split
    · rfl
    · split
      · rfl
      · rw [e4]; rfl
  have hc := hcut (min y.2.1 a0.size + 1) (by omega) (by omega) e0 e2 e4
  rw [Nat.sub_zero] at hc
  rcases hc with hc | hc
  · rw [if_pos hc]
  · rw [if_neg (by rw [hc]; decide), if_pos hc]
end Go.Proofs.YtfdikkdbmlcjiaaGreatDoor.M
end
section
/- A text's error, but for its being too short, is the same one at the same place with anything behind it, and what stands ahead of the place may be read, or is too short; for texts of at most 300 bytes. -/
namespace Go.Proofs.YtfdikkdbmlcjiaaGreatDoor.tokErrors
open Go Go.ChangeShapes Go.WideShapes Go.ChangeAt Go.RowKit
open Go.ChangeMaps (open_string shut_string)
set_option linter.unusedVariables false
theorem own : ownKnob Tryz.prog.godebug = none := by kernel_rfl
set_option maxRecDepth 100000 in
theorem lifted (os : Os) (started : os.Started) (H : Type) (enc : TypeId × Value → H) :
    ReturnsInHanded {} Tryz.checked os 7 .any (fun w args => (Rows.tokErrorsSpec.pre enc Tryz.prog Tryz.f7 Rows.tokErrorsRow.domain false w args ∧ laidMetH Tryz.prog Rows.tokErrorsRow.laid w) ∧ sizedMet enc Tryz.prog Tryz.f7 (OpenSpec.ofChange Rows.tokErrorsSpec) false w args)
      (Rows.tokErrorsSpec.post enc Tryz.prog Tryz.f7 false true false false) := by
  refine M.returns_both (C := Tryz.checked) (X := fun w _ => laidMetH Tryz.prog Rows.tokErrorsRow.laid w) (fun _ _ _ hh h => h.of_heap hh) own started (by kernel_rfl) Tryz.func7
    (ChangeSpec.witness_shaped (enc := enc) (C := Tryz.checked) (os := os) (X := fun w _ => laidMetH Tryz.prog Rows.tokErrorsRow.laid w) false (World.laidAll Tryz.prog os Rows.tokErrorsRow.laid) #[.string ByteArray.empty, .string ByteArray.empty] 8 (World.laidAll_os _ _ _)
      (World.shaped_of_ZipB (by kernel_rfl) (by kernel_rfl)) (by kernel_rfl) (by kernel_rfl) (by kernel_rfl)
      (by rw [MakeChecks.laidMetH_plain _ _ _ (by kernel_rfl)]; exact laidMet_laidAll _ (by kernel_rfl) (by kernel_rfl))) ?_
  intro W base args ds gs before hval0 hW hcnd hsz0 hL hshape
  have hsz : (DataW.weightsEach Tryz.prog (Tryz.f7.params.toList ++ Rows.tokErrorsSpec.plain.varTypes Tryz.prog) (ds ++ gs)).all (· ≤ reachBytes) = true := hsz0
  have hval : ∀ (j : Nat) t v, Tryz.f7.params[j]? = some t → args[j]? = some v → Value.okWide Tryz.prog W .any base t v := hval0
  have hLp := hL
  rw [MakeChecks.laidMetH_plain _ _ _ (by kernel_rfl)] at hLp
  have hG : M.GW W := M.GW.of_mets (hLp.tail.tail.tail.tail) (hLp.tail.tail.tail.tail.tail) (hLp.tail.tail) hshape
  have hW' := hW
  obtain ⟨p, q, hA0, hV, rfl, hfz, hnd⟩ := hW
  have hA : DataW.TrodAll enc Tryz.prog W 0 (fun _ => true) true Tryz.f7.params.toList args.toList ds p := hA0
  rw [Tryz.params7] at hA hval hsz
  obtain ⟨v0, vs0, d0, ds0, p0, q0, hargs, rfl, rfl, h0, r0⟩ := trodAll_cons hA
  obtain ⟨v1, vs1, d1, ds1, p1, q1, rfl, rfl, rfl, h1, r1⟩ := trodAll_cons r0
  obtain ⟨rfl, rfl, rfl⟩ := trodAll_nil r1
  obtain rfl : args = #[v0, v1] := by cases args; simp_all
  obtain ⟨rfl, rfl⟩ := trodVars_none hV
  obtain ⟨a0, rfl, rfl, rfl, y0⟩ := open_string Tryz.underlying9 (hval 0 9 v0 rfl rfl) h0
  have w0 : a0.size ≤ 140737488351232 := by
    have z := sized_string hsz (j := 0) (t := 9) rfl rfl
    rw [Array.length_toList] at z
    exact z
  obtain ⟨a1, rfl, rfl, rfl, y1⟩ := open_string Tryz.underlying9 (hval 1 9 v1 rfl rfl) h1
  have w1 : a1.size ≤ 140737488351232 := by
    have z := sized_string hsz (j := 1) (t := 9) rfl rfl
    rw [Array.length_toList] at z
    exact z
  clear hA0 hval0 hsz0 hsz
  refine (M.hornbooklaw04_TokErrors.walk M.TokErrors a0 a1 W w0 w1 hG).mono fun e W' ⟨he, bel⟩ => ?_
  subst he
  exact ⟨_, rfl, _, _, _, [], _, [], hW', trodAll_mk1 (shut_bool Tryz.underlying4 _), (trodAll_cons_mk (shut_string Tryz.underlying9 y0) (trodAll_cons_mk (shut_string Tryz.underlying9 y1) trodAll_mk0)), rfl, bel.frame _, fun h => by cases h⟩
theorem over : Rows.tokErrorsRow.holds Tryz.pinned (OpenSpec.ofChange Rows.tokErrorsSpec) :=
  OpenClaim.holds_of_wide 7 Tryz.f7 rfl rfl rfl rfl rfl rfl rfl ⟨rfl, rfl, rfl, rfl, rfl⟩ rfl rfl rfl rfl rfl (by kernel_rfl) Tryz.func7 (by kernel_rfl)
    (of_decide_eq_true (by kernel_rfl)) (by unfold Func.isWrapper; first | (rw [if_pos (by decide +kernel)]; kernel_rfl) | (rw [if_neg (by decide +kernel)]; exact ⟨rfl, rfl⟩))
    (fun os started H enc _ => lifted os started H enc)
theorem proved : Rows.TokErrorsSaid := over
theorem card : Rows.TokErrorsCardSaid :=
  Claim7.holds_tied_plain_at .later [] [.data, .data, .data, .data, .sentinel, .sentinel, .pinned] true (true, "7d2f2c49f26663f233dbc861660cac6b02df47310ed9da4de6c3ca3d616622b4") true
    proved (fun _ h => by cases h) (by kernel_rfl) (fun _ h => by cases h) tokErrors_row_tie rfl ⟨rfl, rfl⟩ (by kernel_rfl) rfl
    (fun f fn hf hfn => by
      obtain rfl : f = 7 := Option.some.inj ((show Tryz.prog.funcNamed "hornbook/hornbooklaw04.TokErrors" = some 7 by kernel_rfl).symm.trans hf) |>.symm
      obtain rfl : fn = Tryz.f7 := (Option.some.inj (Tryz.func7.symm.trans hfn)).symm
      exact ⟨by kernel_rfl, fun j t ht => by
        rw [Tryz.params7] at ht
        have hm : t ∈ [9, 9] := by simpa using Array.mem_of_getElem? ht
        have hall : ([9, 9].all fun u => !Tryz.prog.wantsStandIn u) = true := by kernel_rfl
        exact (show Tryz.prog.wantsStandIn t = false by simpa using List.all_eq_true.1 hall t hm)⟩)
    (by kernel_rfl)
end Go.Proofs.YtfdikkdbmlcjiaaGreatDoor.tokErrors
namespace Go.Proofs.YtfdikkdbmlcjiaaGreatDoor
/-- The statement, under a short name, for the claim. -/
theorem tokErrors_holds : Rows.TokErrorsCardSaid := tokErrors.card
#print axioms tokErrors_holds
end Go.Proofs.YtfdikkdbmlcjiaaGreatDoor
end
