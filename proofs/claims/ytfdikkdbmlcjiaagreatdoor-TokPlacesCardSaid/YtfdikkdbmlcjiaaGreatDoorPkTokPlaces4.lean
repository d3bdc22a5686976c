/- Of all tokens of a text each stands behind the one ahead, where a byte stands that is no blank, and the next one from its place on is it; an error's place is within the text, or its end; for texts of at most 600 bytes. -/
/- Packed by this session's program hbpack.py out of this claim's own texts (Q4, Wr, Tn, Ts, Tu, Pq, Ps, Tx, Ty, Ta, Pd, Tb, Tc, Td, PureTokPlaces, LawTokPlaces): the same declarations, without those that the claim does not use. -/
import Derived.Test.YtfdikkdbmlcjiaaGreatDoorPkTokPlaces3
import Derived.HandedShaped
import Derived.ProofKit
import Derived.LaidMore
import Derived.Lay
import Derived.Stop.Joined
import Derived.Shelf.Vars
import Derived.Stop.LaidErr
import Derived.Test.YtfdikkdbmlcjiaaGreatDoorRows
import Derived.Lib.ParseIntBCases
import Derived.Laws.BitsLemmas
import Derived.WalkKit
import Derived.OpenShut
import Derived.ShutString
import Derived.ChangeOld
import Derived.Below
import Derived.SizedLaws
import Derived.SevenTiedAt
import Derived.Test.YtfdikkdbmlcjiaaGreatDoorCards
import Derived.Test.YtfdikkdbmlcjiaaGreatDoorTie
section
/- Laid by this session's program hbprint.py out of the translation: the function hornbook/hornbooklaw04.TokPlaces and its contract. -/
namespace Go.Proofs.YtfdikkdbmlcjiaaGreatDoor.M
open Go.RowKit Go.Proofs.YtfdikkdbmlcjiaaGreatDoorW.PrintWords Go.Proofs.YtfdikkdbmlcjiaaGreatDoorW.PrintLast Go.Proofs.YtfdikkdbmlcjiaaGreatDoorW.PrintMore
attribute [local go_sem] max2_int min2_int max_two min_two max_three min_three max_four min_four
set_option linter.unusedVariables false
set_option linter.unusedSimpArgs false
attribute [local go_sem high] eqA31
mutual
def hornbooklaw04_TokPlaces.j0 : Nat → ByteArray → Bool → List (S31) → Bool → Option (Bool)
  | 0, _, _, _, _ => none
  | k + 1, x0, x3, x4, x51 => if x51 = true then (some false) else (hornbooklaw04_TokPlaces.l0 k x0 x3 x4 0 0)
def hornbooklaw04_TokPlaces.l0 : Nat → ByteArray → Bool → List (S31) → Int → Int → Option (Bool)
  | 0, _, _, _, _, _ => none
  | k + 1, x0, x3, x4, x7, x8 => if x8 < (x4.length : Int) then (if 0 ≤ x8 then (if ((rd_T31 x4 x8).f1) < x7 then (hornbooklaw04_TokPlaces.j2 k x0 x3 x4 x8 ((rd_T31 x4 x8).f1) true) else (if ((rd_T31 x4 x8).f1) ≥ (x0.size : Int) then (hornbooklaw04_TokPlaces.j2 k x0 x3 x4 x8 ((rd_T31 x4 x8).f1) true) else (if 0 ≤ ((rd_T31 x4 x8).f1) then (if ((rd_T31 x4 x8).f1) < (x0.size : Int) then ((lex_Class.f k (wrap64 (bt x0 ((rd_T31 x4 x8).f1)))).bind fun t230 => (if t230 = 1 then (hornbooklaw04_TokPlaces.j2 k x0 x3 x4 x8 ((rd_T31 x4 x8).f1) true) else (if ((rd_T31 x4 x8).f0) < 1 then (hornbooklaw04_TokPlaces.j2 k x0 x3 x4 x8 ((rd_T31 x4 x8).f1) true) else (hornbooklaw04_TokPlaces.j2 k x0 x3 x4 x8 ((rd_T31 x4 x8).f1) (decide (((rd_T31 x4 x8).f0) > 11)))))) else (none)) else (none)))) else (none)) else (some x3)
def hornbooklaw04_TokPlaces.j2 : Nat → ByteArray → Bool → List (S31) → Int → Int → Bool → Option (Bool)
  | 0, _, _, _, _, _, _ => none
  | k + 1, x0, x3, x4, x8, x9, x95 => if x95 = true then (some false) else ((tok_Next.f k x0 x9).bind fun bt233 => (if bt233.2.2.2.2.2 = 0 then (if 0 ≤ x8 then (if x8 < (x4.length : Int) then (if (!(bt233.1 == ((rd_T31 x4 x8).f0)) || (!(bt233.2.1 == ((rd_T31 x4 x8).f1)) || (!(bt233.2.2.1 == ((rd_T31 x4 x8).f2)) || (!(bt233.2.2.2.1.toList == (((rd_T31 x4 x8).f3).toList)))))) = true then (some false) else (if bt233.2.2.2.2.1 ≤ x9 then (some false) else (hornbooklaw04_TokPlaces.l0 k x0 x3 x4 bt233.2.2.2.2.1 (wrap64 (x8 + 1))))) else (none)) else (none)) else (some false)))
end
def hornbooklaw04_TokPlaces.f (k : Nat) (a0 : ByteArray) : Option (Bool) := (hornbooklaw04_awake.f k).bind fun t223 => (if (a0.size : Int) > 600 then (some t223) else ((tok_All.f k a0).bind fun bt224 => (if bt224.2.1 < 0 then (hornbooklaw04_TokPlaces.j0 k a0 t223 bt224.1 true) else (if bt224.2.1 > (a0.size : Int) then (hornbooklaw04_TokPlaces.j0 k a0 t223 bt224.1 true) else (if bt224.2.2 = 0 then (if bt224.2.1 = (a0.size : Int) then (if bt224.2.2 = 2 then (hornbooklaw04_TokPlaces.j0 k a0 t223 bt224.1 (bt224.2.1 != (a0.size : Int))) else (hornbooklaw04_TokPlaces.j0 k a0 t223 bt224.1 false)) else (hornbooklaw04_TokPlaces.j0 k a0 t223 bt224.1 true)) else (if bt224.2.2 = 2 then (hornbooklaw04_TokPlaces.j0 k a0 t223 bt224.1 (bt224.2.1 != (a0.size : Int))) else (hornbooklaw04_TokPlaces.j0 k a0 t223 bt224.1 false)))))))
set_option maxHeartbeats 8000000 in
set_option maxRecDepth 100000 in
theorem hornbooklaw04_TokPlaces.calls (k : Nat) (a0 : ByteArray) (r : Bool) (w : World) (hG : GW w) (h : hornbooklaw04_TokPlaces.f k a0 = some r) :
    Calls Tryz.prog 4 #[.string a0] w fun e w' => e = .returned (.bool r) ∧ Below w.heap.size w w' := by
  have hu31 := Tryz.underlying31
  have HG := Aside0.mk hG
  clear hG
  have HB := Aside0.mk (Below.refl w.heap.size w)
  have H : ((hornbooklaw04_awake.f k).bind fun t223 => (if (a0.size : Int) > 600 then (some t223) else ((tok_All.f k a0).bind fun bt224 => (if bt224.2.1 < 0 then (hornbooklaw04_TokPlaces.j0 k a0 t223 bt224.1 true) else (if bt224.2.1 > (a0.size : Int) then (hornbooklaw04_TokPlaces.j0 k a0 t223 bt224.1 true) else (if bt224.2.2 = 0 then (if bt224.2.1 = (a0.size : Int) then (if bt224.2.2 = 2 then (hornbooklaw04_TokPlaces.j0 k a0 t223 bt224.1 (bt224.2.1 != (a0.size : Int))) else (hornbooklaw04_TokPlaces.j0 k a0 t223 bt224.1 false)) else (hornbooklaw04_TokPlaces.j0 k a0 t223 bt224.1 true)) else (if bt224.2.2 = 2 then (hornbooklaw04_TokPlaces.j0 k a0 t223 bt224.1 (bt224.2.1 != (a0.size : Int))) else (hornbooklaw04_TokPlaces.j0 k a0 t223 bt224.1 false)))))))) = some r := h
  clear h
  replace H := Option.bind_eq_some_iff.mp H
  obtain ⟨t223, A20, H⟩ := H
  replace H : (if (a0.size : Int) > 600 then (some t223) else ((tok_All.f k a0).bind fun bt224 => (if bt224.2.1 < 0 then (hornbooklaw04_TokPlaces.j0 k a0 t223 bt224.1 true) else (if bt224.2.1 > (a0.size : Int) then (hornbooklaw04_TokPlaces.j0 k a0 t223 bt224.1 true) else (if bt224.2.2 = 0 then (if bt224.2.1 = (a0.size : Int) then (if bt224.2.2 = 2 then (hornbooklaw04_TokPlaces.j0 k a0 t223 bt224.1 (bt224.2.1 != (a0.size : Int))) else (hornbooklaw04_TokPlaces.j0 k a0 t223 bt224.1 false)) else (hornbooklaw04_TokPlaces.j0 k a0 t223 bt224.1 true)) else (if bt224.2.2 = 2 then (hornbooklaw04_TokPlaces.j0 k a0 t223 bt224.1 (bt224.2.1 != (a0.size : Int))) else (hornbooklaw04_TokPlaces.j0 k a0 t223 bt224.1 false))))))) = some r := H
  have A2 := Aside0.mk A20
  clear A20
  by_cases c3 : (a0.size : Int) > 600
  · rw [if_pos c3] at H
    have c3b0 : decide (600 < (a0.size : Int)) = true := decide_eq_true c3
    have c3b1 : decide (600 < a0.size) = true := decide_eq_true (by omega)
    clear c3
    obtain rfl := Option.some.inj H
    go_enter Tryz.func4, Tryz.ntmps4
    go_wp2_with (first | (go_at_call 8; (with_reducible refine (hornbooklaw04_awake.calls k  t223 _ ?side1 A2.out).mono ?_); (case side1 => exact GW.below (by repeat (first | (with_reducible first | exact HB.out | apply below_alloc | apply pw_below_drewN | apply below_drew1) | exact HB.out)) HG.out); rintro e w4 ⟨rfl, hb⟩; have n0_ := Aside0.mk (below_step (by repeat (first | (with_reducible first | exact HB.out | apply below_alloc | apply pw_below_drewN | apply below_drew1) | exact HB.out)) hb); clear HB; have HB := n0_; clear n0_; (try clear hb); (try clear hb2); (try clear hk); (try clear hi)))
    repeat (go_quiet (first | (go_at_call 8; (with_reducible refine (hornbooklaw04_awake.calls k  t223 _ ?side1 A2.out).mono ?_); (case side1 => exact GW.below (by repeat (first | (with_reducible first | exact HB.out | apply below_alloc | apply pw_below_drewN | apply below_drew1) | exact HB.out)) HG.out); rintro e w4 ⟨rfl, hb⟩; have n0_ := Aside0.mk (below_step (by repeat (first | (with_reducible first | exact HB.out | apply below_alloc | apply pw_below_drewN | apply below_drew1) | exact HB.out)) hb); clear HB; have HB := n0_; clear n0_; (try clear hb); (try clear hb2); (try clear hk); (try clear hi))); try go_wp2_with (first | (go_at_call 8; (with_reducible refine (hornbooklaw04_awake.calls k  t223 _ ?side1 A2.out).mono ?_); (case side1 => exact GW.below (by repeat (first | (with_reducible first | exact HB.out | apply below_alloc | apply pw_below_drewN | apply below_drew1) | exact HB.out)) HG.out); rintro e w4 ⟨rfl, hb⟩; have n0_ := Aside0.mk (below_step (by repeat (first | (with_reducible first | exact HB.out | apply below_alloc | apply pw_below_drewN | apply below_drew1) | exact HB.out)) hb); clear HB; have HB := n0_; clear n0_; (try clear hb); (try clear hb2); (try clear hk); (try clear hi))))
    go_ret
    exact ⟨by first | rfl | (simp [errW_none, errW_some] <;> rfl) | (simp [*, errW_none, errW_some] <;> rfl), by repeat (first | (with_reducible first | exact HB.out | apply below_alloc | apply pw_below_drewN | apply below_drew1) | exact HB.out)⟩
  · rw [if_neg c3] at H
    have c3b0 : decide (600 < (a0.size : Int)) = false := decide_eq_false c3
    have c3b1 : decide (600 < a0.size) = false := decide_eq_false (by omega)
    clear c3
    replace H := Option.bind_eq_some_iff.mp H
    obtain ⟨⟨t224, t225, t226⟩, A50, H⟩ := H
    replace H : (if t225 < 0 then (hornbooklaw04_TokPlaces.j0 k a0 t223 t224 true) else (if t225 > (a0.size : Int) then (hornbooklaw04_TokPlaces.j0 k a0 t223 t224 true) else (if t226 = 0 then (if t225 = (a0.size : Int) then (if t226 = 2 then (hornbooklaw04_TokPlaces.j0 k a0 t223 t224 (t225 != (a0.size : Int))) else (hornbooklaw04_TokPlaces.j0 k a0 t223 t224 false)) else (hornbooklaw04_TokPlaces.j0 k a0 t223 t224 true)) else (if t226 = 2 then (hornbooklaw04_TokPlaces.j0 k a0 t223 t224 (t225 != (a0.size : Int))) else (hornbooklaw04_TokPlaces.j0 k a0 t223 t224 false))))) = some r := H
    have A5 := Aside0.mk A50
    clear A50
    have HC6 := Aside0.mk H
    clear H
    go_enter Tryz.func4, Tryz.ntmps4
    go_upto_region 5 with (first | (go_at_call 8; (with_reducible refine (hornbooklaw04_awake.calls k  t223 _ ?side1 A2.out).mono ?_); (case side1 => exact GW.below (by repeat (first | (with_reducible first | exact HB.out | apply below_alloc | apply pw_below_drewN | apply below_drew1) | exact HB.out)) HG.out); rintro e w7 ⟨rfl, hb⟩; have n0_ := Aside0.mk (below_step (by repeat (first | (with_reducible first | exact HB.out | apply below_alloc | apply pw_below_drewN | apply below_drew1) | exact HB.out)) hb); clear HB; have HB := n0_; clear n0_; (try clear hb); (try clear hb2); (try clear hk); (try clear hi)) | (go_at_call 9; (with_reducible refine (tok_All.calls k a0 t224 t225 t226 _ ?side1 A5.out).mono ?_); (case side1 => exact GW.below (by repeat (first | (with_reducible first | exact HB.out | apply below_alloc | apply pw_below_drewN | apply below_drew1) | exact HB.out)) HG.out); rintro e w8 ⟨v227, rfl, ho0, hb⟩; have n0_ := Aside0.mk (Kd.R_lower ho0 (below_size (by repeat (first | (with_reducible first | exact HB.out | apply below_alloc | apply pw_below_drewN | apply below_drew1) | exact HB.out)))); have n1_ := Aside0.mk (below_step (by repeat (first | (with_reducible first | exact HB.out | apply below_alloc | apply pw_below_drewN | apply below_drew1) | exact HB.out)) hb); clear HB; have HO228 := n0_; have HB := n1_; clear n0_ n1_; (try clear hb); (try clear hb2); (try clear hk); (try clear hi); (try clear ho0)))
    repeat (go_quiet (first | (go_at_call 8; (with_reducible refine (hornbooklaw04_awake.calls k  t223 _ ?side1 A2.out).mono ?_); (case side1 => exact GW.below (by repeat (first | (with_reducible first | exact HB.out | apply below_alloc | apply pw_below_drewN | apply below_drew1) | exact HB.out)) HG.out); rintro e w7 ⟨rfl, hb⟩; have n0_ := Aside0.mk (below_step (by repeat (first | (with_reducible first | exact HB.out | apply below_alloc | apply pw_below_drewN | apply below_drew1) | exact HB.out)) hb); clear HB; have HB := n0_; clear n0_; (try clear hb); (try clear hb2); (try clear hk); (try clear hi)) | (go_at_call 9; (with_reducible refine (tok_All.calls k a0 t224 t225 t226 _ ?side1 A5.out).mono ?_); (case side1 => exact GW.below (by repeat (first | (with_reducible first | exact HB.out | apply below_alloc | apply pw_below_drewN | apply below_drew1) | exact HB.out)) HG.out); rintro e w8 ⟨v227, rfl, ho0, hb⟩; have n0_ := Aside0.mk (Kd.R_lower ho0 (below_size (by repeat (first | (with_reducible first | exact HB.out | apply below_alloc | apply pw_below_drewN | apply below_drew1) | exact HB.out)))); have n1_ := Aside0.mk (below_step (by repeat (first | (with_reducible first | exact HB.out | apply below_alloc | apply pw_below_drewN | apply below_drew1) | exact HB.out)) hb); clear HB; have HO228 := n0_; have HB := n1_; clear n0_ n1_; (try clear hb); (try clear hb2); (try clear hk); (try clear hi); (try clear ho0))); go_upto_region 5 with (first | (go_at_call 8; (with_reducible refine (hornbooklaw04_awake.calls k  t223 _ ?side1 A2.out).mono ?_); (case side1 => exact GW.below (by repeat (first | (with_reducible first | exact HB.out | apply below_alloc | apply pw_below_drewN | apply below_drew1) | exact HB.out)) HG.out); rintro e w7 ⟨rfl, hb⟩; have n0_ := Aside0.mk (below_step (by repeat (first | (with_reducible first | exact HB.out | apply below_alloc | apply pw_below_drewN | apply below_drew1) | exact HB.out)) hb); clear HB; have HB := n0_; clear n0_; (try clear hb); (try clear hb2); (try clear hk); (try clear hi)) | (go_at_call 9; (with_reducible refine (tok_All.calls k a0 t224 t225 t226 _ ?side1 A5.out).mono ?_); (case side1 => exact GW.below (by repeat (first | (with_reducible first | exact HB.out | apply below_alloc | apply pw_below_drewN | apply below_drew1) | exact HB.out)) HG.out); rintro e w8 ⟨v227, rfl, ho0, hb⟩; have n0_ := Aside0.mk (Kd.R_lower ho0 (below_size (by repeat (first | (with_reducible first | exact HB.out | apply below_alloc | apply pw_below_drewN | apply below_drew1) | exact HB.out)))); have n1_ := Aside0.mk (below_step (by repeat (first | (with_reducible first | exact HB.out | apply below_alloc | apply pw_below_drewN | apply below_drew1) | exact HB.out)) hb); clear HB; have HO228 := n0_; have HB := n1_; clear n0_ n1_; (try clear hb); (try clear hb2); (try clear hk); (try clear hi); (try clear ho0))))
    (try simp only [Act.put, List.setIfInBounds_toArray, List.set_cons_zero, List.set_cons_succ])
    go_cut [51] (fun v51 wc => ∃ (kq : Nat) (x51_5 : Bool), v51 = .bool x51_5 ∧ Aside0 (hornbooklaw04_TokPlaces.j0 kq a0 t223 t224 x51_5 = some r) ∧ Aside0 (kq ≤ k) ∧ Aside0 (Kd.R k31 31 wc w.heap.size (fun _ => True) v227 t224) ∧ Aside0 (Below w.heap.size w wc))
    case first =>
      have H := HC6.out
      clear HC6
      by_cases c9 : t225 < 0
      · rw [if_pos c9] at H
        have c9b0 : decide (t225 < 0) = true := decide_eq_true c9
        clear c9
        (first | rw [c9b0] | (simp only [i64_w, i32_w]; rw [c9b0]) | skip)
        have H' := Aside0.mk H
        clear H
        go_wp2
        repeat (go_quiet (fail); try go_wp2)
        go_meet
        case rel => exact ⟨_, (true), (by first | rfl | (simp; done) | (simp [*]; done)), H', ⟨by first | omega | exact Nat.le_refl _⟩, ⟨by (with_reducible repeat (first | apply Kd.R_alloc | apply Kd.R_drewN | apply Kd.R_drew)); exact HO228.out⟩, ⟨by repeat (first | (with_reducible first | exact HB.out | apply below_alloc | apply pw_below_drewN | apply below_drew1) | exact HB.out)⟩⟩
      · rw [if_neg c9] at H
        have c9b0 : decide (t225 < 0) = false := decide_eq_false c9
        clear c9
        (first | rw [c9b0] | (simp only [i64_w, i32_w]; rw [c9b0]) | skip)
        by_cases c10 : t225 > (a0.size : Int)
        · rw [if_pos c10] at H
          have c10b0 : decide ((a0.size : Int) < t225) = true := decide_eq_true c10
          clear c10
          have H' := Aside0.mk H
          clear H
          go_wp2
          repeat (go_quiet (fail); try go_wp2)
          go_meet
          case rel => exact ⟨_, (true), (by first | rfl | (simp; done) | (simp [*]; done)), H', ⟨by first | omega | exact Nat.le_refl _⟩, ⟨by (with_reducible repeat (first | apply Kd.R_alloc | apply Kd.R_drewN | apply Kd.R_drew)); exact HO228.out⟩, ⟨by repeat (first | (with_reducible first | exact HB.out | apply below_alloc | apply pw_below_drewN | apply below_drew1) | exact HB.out)⟩⟩
        · rw [if_neg c10] at H
          have c10b0 : decide ((a0.size : Int) < t225) = false := decide_eq_false c10
          clear c10
          by_cases c11 : t226 = 0
          · rw [if_pos c11] at H
            have c11b0 : (t226 == 0) = true := beq_iff_eq.mpr c11
            have c11b1 : (t226 != 0) = false := bne_eq_false_iff_eq.mpr c11
            clear c11
            by_cases c12 : t225 = (a0.size : Int)
            · rw [if_pos c12] at H
              have c12b0 : (t225 == (a0.size : Int)) = true := beq_iff_eq.mpr c12
              have c12b1 : (t225 != (a0.size : Int)) = false := bne_eq_false_iff_eq.mpr c12
              clear c12
              by_cases c13 : t226 = 2
              · rw [if_pos c13] at H
                have c13b0 : (t226 == 2) = true := beq_iff_eq.mpr c13
                have c13b1 : (t226 != 2) = false := bne_eq_false_iff_eq.mpr c13
                clear c13
                have H' := Aside0.mk H
                clear H
                go_wp2
                repeat (go_quiet (fail); try go_wp2)
                go_meet
                case rel => exact ⟨_, ((t225 != (a0.size : Int))), (by first | rfl | (simp; done) | (simp [*]; done)), H', ⟨by first | omega | exact Nat.le_refl _⟩, ⟨by (with_reducible repeat (first | apply Kd.R_alloc | apply Kd.R_drewN | apply Kd.R_drew)); exact HO228.out⟩, ⟨by repeat (first | (with_reducible first | exact HB.out | apply below_alloc | apply pw_below_drewN | apply below_drew1) | exact HB.out)⟩⟩
              · rw [if_neg c13] at H
                have c13b0 : (t226 == 2) = false := beq_eq_false_iff_ne.mpr c13
                have c13b1 : (t226 != 2) = true := bne_iff_ne.mpr c13
                have H' := Aside0.mk H
                clear H
                go_wp2
                repeat (go_quiet (fail); try go_wp2)
                go_meet
                case rel => exact ⟨_, (false), (by first | rfl | (simp; done) | (simp [*]; done)), H', ⟨by first | omega | exact Nat.le_refl _⟩, ⟨by (with_reducible repeat (first | apply Kd.R_alloc | apply Kd.R_drewN | apply Kd.R_drew)); exact HO228.out⟩, ⟨by repeat (first | (with_reducible first | exact HB.out | apply below_alloc | apply pw_below_drewN | apply below_drew1) | exact HB.out)⟩⟩
            · rw [if_neg c12] at H
              have c12b0 : (t225 == (a0.size : Int)) = false := beq_eq_false_iff_ne.mpr c12
              have c12b1 : (t225 != (a0.size : Int)) = true := bne_iff_ne.mpr c12
              have H' := Aside0.mk H
              clear H
              go_wp2
              repeat (go_quiet (fail); try go_wp2)
              go_meet
              case rel => exact ⟨_, (true), (by first | rfl | (simp; done) | (simp [*]; done)), H', ⟨by first | omega | exact Nat.le_refl _⟩, ⟨by (with_reducible repeat (first | apply Kd.R_alloc | apply Kd.R_drewN | apply Kd.R_drew)); exact HO228.out⟩, ⟨by repeat (first | (with_reducible first | exact HB.out | apply below_alloc | apply pw_below_drewN | apply below_drew1) | exact HB.out)⟩⟩
          · rw [if_neg c11] at H
            have c11b0 : (t226 == 0) = false := beq_eq_false_iff_ne.mpr c11
            have c11b1 : (t226 != 0) = true := bne_iff_ne.mpr c11
            by_cases c14 : t226 = 2
            · rw [if_pos c14] at H
              have c14b0 : (t226 == 2) = true := beq_iff_eq.mpr c14
              have c14b1 : (t226 != 2) = false := bne_eq_false_iff_eq.mpr c14
              clear c14
              have H' := Aside0.mk H
              clear H
              go_wp2
              repeat (go_quiet (fail); try go_wp2)
              go_meet
              case rel => exact ⟨_, ((t225 != (a0.size : Int))), (by first | rfl | (simp; done) | (simp [*]; done)), H', ⟨by first | omega | exact Nat.le_refl _⟩, ⟨by (with_reducible repeat (first | apply Kd.R_alloc | apply Kd.R_drewN | apply Kd.R_drew)); exact HO228.out⟩, ⟨by repeat (first | (with_reducible first | exact HB.out | apply below_alloc | apply pw_below_drewN | apply below_drew1) | exact HB.out)⟩⟩
            · rw [if_neg c14] at H
              have c14b0 : (t226 == 2) = false := beq_eq_false_iff_ne.mpr c14
              have c14b1 : (t226 != 2) = true := bne_iff_ne.mpr c14
              have H' := Aside0.mk H
              clear H
              go_wp2
              repeat (go_quiet (fail); try go_wp2)
              go_meet
              case rel => exact ⟨_, (false), (by first | rfl | (simp; done) | (simp [*]; done)), H', ⟨by first | omega | exact Nat.le_refl _⟩, ⟨by (with_reducible repeat (first | apply Kd.R_alloc | apply Kd.R_drewN | apply Kd.R_drew)); exact HO228.out⟩, ⟨by repeat (first | (with_reducible first | exact HB.out | apply below_alloc | apply pw_below_drewN | apply below_drew1) | exact HB.out)⟩⟩
    case rest =>
      clear HC6
      try clear c1
      try clear p2
      try clear c3
      try clear c3b0
      try clear c3b1
      try clear c4
      try clear c9
      try clear c9b0
      try clear c10
      try clear c10b0
      try clear c11
      try clear c11b0
      try clear c11b1
      try clear c12
      try clear c12b0
      try clear c12b1
      try clear c13
      try clear c13b0
      try clear c13b1
      try clear c14
      try clear c14b0
      try clear c14b1
      obtain ⟨kq, x51_5, rfl, HA, HJ5, HO_4, HB⟩ := hcut
      cases kq with
      | zero => exact absurd HA.out (by simp [hornbooklaw04_TokPlaces.j0])
      | succ kj5 =>
        have H := HA.out
        clear HA
        simp only [hornbooklaw04_TokPlaces.j0] at H
        by_cases c15 : x51_5 = true
        · subst c15
          have H1 : (some false) = some r := by rw [if_pos rfl] at H; exact H
          clear H
          have H := H1
          clear H1
          obtain rfl := Option.some.inj H
          go_wp2
          repeat (go_quiet (fail); try go_wp2)
          go_ret
          exact ⟨by first | rfl | (simp [errW_none, errW_some] <;> rfl) | (simp [*, errW_none, errW_some] <;> rfl), by repeat (first | (with_reducible first | exact HB.out | apply below_alloc | apply pw_below_drewN | apply below_drew1) | exact HB.out)⟩
        · replace c15 := Bool.eq_false_iff.mpr c15
          subst c15
          have H1 : (hornbooklaw04_TokPlaces.l0 kj5 a0 t223 t224 0 0) = some r := by rw [if_neg (show ¬ (false = true) by decide)] at H; exact H
          clear H
          have H := H1
          clear H1
          have H' := Aside0.mk H
          clear H
          go_wp2
          repeat (go_quiet (fail); try go_wp2)
          go_loopg [7, 8] kj5 (fun kq v7 v8 w' => ∃ (x7_2 : Int) (x8_2 : Int), v7 = .int .i64 x7_2 ∧ v8 = .int .i64 x8_2 ∧ Aside0 (hornbooklaw04_TokPlaces.l0 kq a0 t223 t224 x7_2 x8_2 = some r) ∧ Aside0 (kq ≤ kj5) ∧ Aside0 (Kd.R k31 31 w' w.heap.size (fun _ => True) v227 t224) ∧ Aside0 (Below w.heap.size w w'))
          case atStart => exact ⟨(0), (0), (by first | rfl | (simp; done) | (simp [*]; done)), (by first | rfl | (simp; done) | (simp [*]; done)), H', ⟨Nat.le_refl _⟩, ⟨by (with_reducible repeat (first | apply Kd.R_alloc | apply Kd.R_drewN | apply Kd.R_drew)); exact HO_4.out⟩, ⟨by repeat (first | (with_reducible first | exact HB.out | apply below_alloc | apply pw_below_drewN | apply below_drew1) | exact HB.out)⟩⟩
          case round =>
            clear H'
            try clear c1
            try clear p2
            try clear c3
            try clear c3b0
            try clear c3b1
            try clear c4
            try clear c9
            try clear c9b0
            try clear c10
            try clear c10b0
            try clear c11
            try clear c11b0
            try clear c11b1
            try clear c12
            try clear c12b0
            try clear c12b1
            try clear c13
            try clear c13b0
            try clear c13b1
            try clear c14
            try clear c14b0
            try clear c14b1
            try clear c15
            try clear p2
            obtain ⟨x7_2, x8_2, rfl, rfl, HA, HK2, HO_4, HB⟩ := hrel
            cases gk with
            | zero => exact absurd HA.out (by simp [hornbooklaw04_TokPlaces.l0])
            | succ k2 =>
              have H := HA.out
              clear HA
              simp only [hornbooklaw04_TokPlaces.l0] at H
              by_cases c16 : x8_2 < (t224.length : Int)
              · rw [if_pos c16] at H
                have c16b0 : decide (x8_2 < (t224.length : Int)) = true := decide_eq_true c16
                clear c16
                by_cases c17 : 0 ≤ x8_2
                · rw [if_pos c17] at H
                  have c17b0 : decide (0 ≤ x8_2) = true := decide_eq_true c17
                  clear c17
                  have HC18 := Aside0.mk H
                  clear H
                  obtain ⟨Ao19, co19, eo19⟩ := Kd.R_slice HO_4.out
                  subst eo19
                  have p229 : 0 ≤ (x8_2 : Int) := of_decide_eq_true (by first | (with_reducible assumption) | assumption)
                  have q229 : x8_2 < (t224.length : Int) := of_decide_eq_true (by first | (with_reducible assumption) | assumption)
                  obtain ⟨ad229, e229, hx229_0, hx229_1, hx229_2, hx229_3⟩ := at_T31 (Kd.R_reads' HO_4.out).2.2 x8_2 p229 q229
                  cases e229
                  replace p229 := eq_true p229
                  replace q229 := eq_true q229
                  go_upto_region 12 with (fail)
                  repeat (go_quiet (fail); go_upto_region 12 with (fail))
                  go_cut [95] (fun v95 wc => ∃ (kq : Nat) (x95_17 : Bool), v95 = .bool x95_17 ∧ Aside0 (hornbooklaw04_TokPlaces.j2 kq a0 t223 t224 x8_2 ((rd_T31 t224 x8_2).f1) x95_17 = some r) ∧ Aside0 (kq ≤ k2) ∧ Aside0 (Kd.R k31 31 wc w.heap.size (fun _ => True) (.slice (some ad229) t224.length co19) t224) ∧ Aside0 (Below w.heap.size w wc))
                  case first =>
                    have H := HC18.out
                    clear HC18
                    by_cases c20 : ((rd_T31 t224 x8_2).f1) < x7_2
                    · rw [if_pos c20] at H
                      have c20b0 : decide (((rd_T31 t224 x8_2).f1) < x7_2) = true := decide_eq_true c20
                      clear c20
                      (first | rw [c20b0] | (simp only [i64_w, i32_w]; rw [c20b0]) | skip)
                      have H' := Aside0.mk H
                      clear H
                      go_wp2
                      repeat (go_quiet (fail); try go_wp2)
                      go_meet
                      case rel => exact ⟨_, (true), (by first | rfl | (simp; done) | (simp [*]; done)), H', ⟨by have := HJ5.out; have := HK2.out; first | omega | exact Nat.le_refl _⟩, ⟨by (with_reducible repeat (first | apply Kd.R_alloc | apply Kd.R_drewN | apply Kd.R_drew)); exact HO_4.out⟩, ⟨by repeat (first | (with_reducible first | exact HB.out | apply below_alloc | apply pw_below_drewN | apply below_drew1) | exact HB.out)⟩⟩
                    · rw [if_neg c20] at H
                      have c20b0 : decide (((rd_T31 t224 x8_2).f1) < x7_2) = false := decide_eq_false c20
                      clear c20
                      (first | rw [c20b0] | (simp only [i64_w, i32_w]; rw [c20b0]) | skip)
                      by_cases c21 : ((rd_T31 t224 x8_2).f1) ≥ (a0.size : Int)
                      · rw [if_pos c21] at H
                        have c21b0 : decide ((a0.size : Int) ≤ ((rd_T31 t224 x8_2).f1)) = true := decide_eq_true c21
                        clear c21
                        have H' := Aside0.mk H
                        clear H
                        go_wp2
                        repeat (go_quiet (fail); try go_wp2)
                        go_meet
                        case rel => exact ⟨_, (true), (by first | rfl | (simp; done) | (simp [*]; done)), H', ⟨by have := HJ5.out; have := HK2.out; first | omega | exact Nat.le_refl _⟩, ⟨by (with_reducible repeat (first | apply Kd.R_alloc | apply Kd.R_drewN | apply Kd.R_drew)); exact HO_4.out⟩, ⟨by repeat (first | (with_reducible first | exact HB.out | apply below_alloc | apply pw_below_drewN | apply below_drew1) | exact HB.out)⟩⟩
                      · rw [if_neg c21] at H
                        have c21b0 : decide ((a0.size : Int) ≤ ((rd_T31 t224 x8_2).f1)) = false := decide_eq_false c21
                        clear c21
                        by_cases c22 : 0 ≤ ((rd_T31 t224 x8_2).f1)
                        · rw [if_pos c22] at H
                          have c22b0 : decide (0 ≤ ((rd_T31 t224 x8_2).f1)) = true := decide_eq_true c22
                          clear c22
                          by_cases c23 : ((rd_T31 t224 x8_2).f1) < (a0.size : Int)
                          · rw [if_pos c23] at H
                            have c23b0 : decide (((rd_T31 t224 x8_2).f1) < (a0.size : Int)) = true := decide_eq_true c23
                            clear c23
                            replace H := Option.bind_eq_some_iff.mp H
                            obtain ⟨t230, A250, H⟩ := H
                            replace H : (if t230 = 1 then (hornbooklaw04_TokPlaces.j2 k2 a0 t223 t224 x8_2 ((rd_T31 t224 x8_2).f1) true) else (if ((rd_T31 t224 x8_2).f0) < 1 then (hornbooklaw04_TokPlaces.j2 k2 a0 t223 t224 x8_2 ((rd_T31 t224 x8_2).f1) true) else (hornbooklaw04_TokPlaces.j2 k2 a0 t223 t224 x8_2 ((rd_T31 t224 x8_2).f1) (decide (((rd_T31 t224 x8_2).f0) > 11))))) = some r := H
                            have A25 := Aside0.mk A250
                            clear A250
                            by_cases c26 : t230 = 1
                            · rw [if_pos c26] at H
                              have c26b0 : (t230 == 1) = true := beq_iff_eq.mpr c26
                              have c26b1 : (t230 != 1) = false := bne_eq_false_iff_eq.mpr c26
                              clear c26
                              have H' := Aside0.mk H
                              clear H
                              have p24 : 0 ≤ (((rd_T31 t224 x8_2).f1) : Int) := of_decide_eq_true (by first | (with_reducible assumption) | assumption)
                              have q24 : ((rd_T31 t224 x8_2).f1) < (a0.size : Int) := of_decide_eq_true (by first | (with_reducible assumption) | assumption)
                              have hx24 := bt_at a0 ((rd_T31 t224 x8_2).f1)
                              replace p24 := eq_true p24
                              replace q24 := eq_true q24
                              go_wp2_with (first | (go_at_call 12; (with_reducible refine (lex_Class.calls k2 (wrap64 (bt a0 ((rd_T31 t224 x8_2).f1))) t230 _ A25.out).mono ?_); rintro e w27 ⟨rfl, hb⟩; have n0_ := Aside0.mk (Kd.R_below (by (with_reducible repeat (first | apply Kd.R_alloc | apply Kd.R_drewN | apply Kd.R_drew)); exact HO_4.out) hb); have n1_ := Aside0.mk (below_step (by repeat (first | (with_reducible first | exact HB.out | apply below_alloc | apply pw_below_drewN | apply below_drew1) | exact HB.out)) hb); clear HO_4; clear HB; have HO_4 := n0_; have HB := n1_; clear n0_ n1_; (try clear hb); (try clear hb2); (try clear hk); (try clear hi)))
                              repeat (go_quiet (first | (go_at_call 12; (with_reducible refine (lex_Class.calls k2 (wrap64 (bt a0 ((rd_T31 t224 x8_2).f1))) t230 _ A25.out).mono ?_); rintro e w27 ⟨rfl, hb⟩; have n0_ := Aside0.mk (Kd.R_below (by (with_reducible repeat (first | apply Kd.R_alloc | apply Kd.R_drewN | apply Kd.R_drew)); exact HO_4.out) hb); have n1_ := Aside0.mk (below_step (by repeat (first | (with_reducible first | exact HB.out | apply below_alloc | apply pw_below_drewN | apply below_drew1) | exact HB.out)) hb); clear HO_4; clear HB; have HO_4 := n0_; have HB := n1_; clear n0_ n1_; (try clear hb); (try clear hb2); (try clear hk); (try clear hi))); try go_wp2_with (first | (go_at_call 12; (with_reducible refine (lex_Class.calls k2 (wrap64 (bt a0 ((rd_T31 t224 x8_2).f1))) t230 _ A25.out).mono ?_); rintro e w27 ⟨rfl, hb⟩; have n0_ := Aside0.mk (Kd.R_below (by (with_reducible repeat (first | apply Kd.R_alloc | apply Kd.R_drewN | apply Kd.R_drew)); exact HO_4.out) hb); have n1_ := Aside0.mk (below_step (by repeat (first | (with_reducible first | exact HB.out | apply below_alloc | apply pw_below_drewN | apply below_drew1) | exact HB.out)) hb); clear HO_4; clear HB; have HO_4 := n0_; have HB := n1_; clear n0_ n1_; (try clear hb); (try clear hb2); (try clear hk); (try clear hi))))
                              go_meet
                              case rel => exact ⟨_, (true), (by first | rfl | (simp; done) | (simp [*]; done)), H', ⟨by have := HJ5.out; have := HK2.out; first | omega | exact Nat.le_refl _⟩, ⟨by (with_reducible repeat (first | apply Kd.R_alloc | apply Kd.R_drewN | apply Kd.R_drew)); exact HO_4.out⟩, ⟨by repeat (first | (with_reducible first | exact HB.out | apply below_alloc | apply pw_below_drewN | apply below_drew1) | exact HB.out)⟩⟩
                            · rw [if_neg c26] at H
                              have c26b0 : (t230 == 1) = false := beq_eq_false_iff_ne.mpr c26
                              have c26b1 : (t230 != 1) = true := bne_iff_ne.mpr c26
                              by_cases c28 : ((rd_T31 t224 x8_2).f0) < 1
                              · rw [if_pos c28] at H
                                have c28b0 : decide (((rd_T31 t224 x8_2).f0) < 1) = true := decide_eq_true c28
                                clear c28
                                have H' := Aside0.mk H
                                clear H
                                have p24 : 0 ≤ (((rd_T31 t224 x8_2).f1) : Int) := of_decide_eq_true (by first | (with_reducible assumption) | assumption)
                                have q24 : ((rd_T31 t224 x8_2).f1) < (a0.size : Int) := of_decide_eq_true (by first | (with_reducible assumption) | assumption)
                                have hx24 := bt_at a0 ((rd_T31 t224 x8_2).f1)
                                replace p24 := eq_true p24
                                replace q24 := eq_true q24
                                go_wp2_with (first | (go_at_call 12; (with_reducible refine (lex_Class.calls k2 (wrap64 (bt a0 ((rd_T31 t224 x8_2).f1))) t230 _ A25.out).mono ?_); rintro e w29 ⟨rfl, hb⟩; have n0_ := Aside0.mk (Kd.R_below (by (with_reducible repeat (first | apply Kd.R_alloc | apply Kd.R_drewN | apply Kd.R_drew)); exact HO_4.out) hb); have n1_ := Aside0.mk (below_step (by repeat (first | (with_reducible first | exact HB.out | apply below_alloc | apply pw_below_drewN | apply below_drew1) | exact HB.out)) hb); clear HO_4; clear HB; have HO_4 := n0_; have HB := n1_; clear n0_ n1_; (try clear hb); (try clear hb2); (try clear hk); (try clear hi); have p231 : 0 ≤ (x8_2 : Int) := of_decide_eq_true (by first | (with_reducible assumption) | assumption); have q231 : x8_2 < (t224.length : Int) := of_decide_eq_true (by first | (with_reducible assumption) | assumption); obtain ⟨ad231, e231, hx231_0, hx231_1, hx231_2, hx231_3⟩ := at_T31 (Kd.R_reads' HO_4.out).2.2 x8_2 p231 q231; obtain rfl : ad229 = ad231 := (by injection e231); replace p231 := eq_true p231; replace q231 := eq_true q231))
                                repeat (go_quiet (first | (go_at_call 12; (with_reducible refine (lex_Class.calls k2 (wrap64 (bt a0 ((rd_T31 t224 x8_2).f1))) t230 _ A25.out).mono ?_); rintro e w29 ⟨rfl, hb⟩; have n0_ := Aside0.mk (Kd.R_below (by (with_reducible repeat (first | apply Kd.R_alloc | apply Kd.R_drewN | apply Kd.R_drew)); exact HO_4.out) hb); have n1_ := Aside0.mk (below_step (by repeat (first | (with_reducible first | exact HB.out | apply below_alloc | apply pw_below_drewN | apply below_drew1) | exact HB.out)) hb); clear HO_4; clear HB; have HO_4 := n0_; have HB := n1_; clear n0_ n1_; (try clear hb); (try clear hb2); (try clear hk); (try clear hi); have p231 : 0 ≤ (x8_2 : Int) := of_decide_eq_true (by first | (with_reducible assumption) | assumption); have q231 : x8_2 < (t224.length : Int) := of_decide_eq_true (by first | (with_reducible assumption) | assumption); obtain ⟨ad231, e231, hx231_0, hx231_1, hx231_2, hx231_3⟩ := at_T31 (Kd.R_reads' HO_4.out).2.2 x8_2 p231 q231; obtain rfl : ad229 = ad231 := (by injection e231); replace p231 := eq_true p231; replace q231 := eq_true q231)); try go_wp2_with (first | (go_at_call 12; (with_reducible refine (lex_Class.calls k2 (wrap64 (bt a0 ((rd_T31 t224 x8_2).f1))) t230 _ A25.out).mono ?_); rintro e w29 ⟨rfl, hb⟩; have n0_ := Aside0.mk (Kd.R_below (by (with_reducible repeat (first | apply Kd.R_alloc | apply Kd.R_drewN | apply Kd.R_drew)); exact HO_4.out) hb); have n1_ := Aside0.mk (below_step (by repeat (first | (with_reducible first | exact HB.out | apply below_alloc | apply pw_below_drewN | apply below_drew1) | exact HB.out)) hb); clear HO_4; clear HB; have HO_4 := n0_; have HB := n1_; clear n0_ n1_; (try clear hb); (try clear hb2); (try clear hk); (try clear hi); have p231 : 0 ≤ (x8_2 : Int) := of_decide_eq_true (by first | (with_reducible assumption) | assumption); have q231 : x8_2 < (t224.length : Int) := of_decide_eq_true (by first | (with_reducible assumption) | assumption); obtain ⟨ad231, e231, hx231_0, hx231_1, hx231_2, hx231_3⟩ := at_T31 (Kd.R_reads' HO_4.out).2.2 x8_2 p231 q231; obtain rfl : ad229 = ad231 := (by injection e231); replace p231 := eq_true p231; replace q231 := eq_true q231)))
                                go_meet
                                case rel => exact ⟨_, (true), (by first | rfl | (simp; done) | (simp [*]; done)), H', ⟨by have := HJ5.out; have := HK2.out; first | omega | exact Nat.le_refl _⟩, ⟨by (with_reducible repeat (first | apply Kd.R_alloc | apply Kd.R_drewN | apply Kd.R_drew)); exact HO_4.out⟩, ⟨by repeat (first | (with_reducible first | exact HB.out | apply below_alloc | apply pw_below_drewN | apply below_drew1) | exact HB.out)⟩⟩
                              · rw [if_neg c28] at H
                                have c28b0 : decide (((rd_T31 t224 x8_2).f0) < 1) = false := decide_eq_false c28
                                clear c28
                                have H' := Aside0.mk H
                                clear H
                                have p24 : 0 ≤ (((rd_T31 t224 x8_2).f1) : Int) := of_decide_eq_true (by first | (with_reducible assumption) | assumption)
                                have q24 : ((rd_T31 t224 x8_2).f1) < (a0.size : Int) := of_decide_eq_true (by first | (with_reducible assumption) | assumption)
                                have hx24 := bt_at a0 ((rd_T31 t224 x8_2).f1)
                                replace p24 := eq_true p24
                                replace q24 := eq_true q24
                                go_wp2_with (first | (go_at_call 12; (with_reducible refine (lex_Class.calls k2 (wrap64 (bt a0 ((rd_T31 t224 x8_2).f1))) t230 _ A25.out).mono ?_); rintro e w30 ⟨rfl, hb⟩; have n0_ := Aside0.mk (Kd.R_below (by (with_reducible repeat (first | apply Kd.R_alloc | apply Kd.R_drewN | apply Kd.R_drew)); exact HO_4.out) hb); have n1_ := Aside0.mk (below_step (by repeat (first | (with_reducible first | exact HB.out | apply below_alloc | apply pw_below_drewN | apply below_drew1) | exact HB.out)) hb); clear HO_4; clear HB; have HO_4 := n0_; have HB := n1_; clear n0_ n1_; (try clear hb); (try clear hb2); (try clear hk); (try clear hi); have p231 : 0 ≤ (x8_2 : Int) := of_decide_eq_true (by first | (with_reducible assumption) | assumption); have q231 : x8_2 < (t224.length : Int) := of_decide_eq_true (by first | (with_reducible assumption) | assumption); obtain ⟨ad231, e231, hx231_0, hx231_1, hx231_2, hx231_3⟩ := at_T31 (Kd.R_reads' HO_4.out).2.2 x8_2 p231 q231; obtain rfl : ad229 = ad231 := (by injection e231); replace p231 := eq_true p231; replace q231 := eq_true q231; have p232 : 0 ≤ (x8_2 : Int) := of_decide_eq_true (by first | (with_reducible assumption) | assumption); have q232 : x8_2 < (t224.length : Int) := of_decide_eq_true (by first | (with_reducible assumption) | assumption); obtain ⟨ad232, e232, hx232_0, hx232_1, hx232_2, hx232_3⟩ := at_T31 (Kd.R_reads' HO_4.out).2.2 x8_2 p232 q232; obtain rfl : ad229 = ad232 := (by injection e232); replace p232 := eq_true p232; replace q232 := eq_true q232))
                                repeat (go_quiet (first | (go_at_call 12; (with_reducible refine (lex_Class.calls k2 (wrap64 (bt a0 ((rd_T31 t224 x8_2).f1))) t230 _ A25.out).mono ?_); rintro e w30 ⟨rfl, hb⟩; have n0_ := Aside0.mk (Kd.R_below (by (with_reducible repeat (first | apply Kd.R_alloc | apply Kd.R_drewN | apply Kd.R_drew)); exact HO_4.out) hb); have n1_ := Aside0.mk (below_step (by repeat (first | (with_reducible first | exact HB.out | apply below_alloc | apply pw_below_drewN | apply below_drew1) | exact HB.out)) hb); clear HO_4; clear HB; have HO_4 := n0_; have HB := n1_; clear n0_ n1_; (try clear hb); (try clear hb2); (try clear hk); (try clear hi); have p231 : 0 ≤ (x8_2 : Int) := of_decide_eq_true (by first | (with_reducible assumption) | assumption); have q231 : x8_2 < (t224.length : Int) := of_decide_eq_true (by first | (with_reducible assumption) | assumption); obtain ⟨ad231, e231, hx231_0, hx231_1, hx231_2, hx231_3⟩ := at_T31 (Kd.R_reads' HO_4.out).2.2 x8_2 p231 q231; obtain rfl : ad229 = ad231 := (by injection e231); replace p231 := eq_true p231; replace q231 := eq_true q231; have p232 : 0 ≤ (x8_2 : Int) := of_decide_eq_true (by first | (with_reducible assumption) | assumption); have q232 : x8_2 < (t224.length : Int) := of_decide_eq_true (by first | (with_reducible assumption) | assumption); obtain ⟨ad232, e232, hx232_0, hx232_1, hx232_2, hx232_3⟩ := at_T31 (Kd.R_reads' HO_4.out).2.2 x8_2 p232 q232; obtain rfl : ad229 = ad232 := (by injection e232); replace p232 := eq_true p232; replace q232 := eq_true q232)); try go_wp2_with (first | (go_at_call 12; (with_reducible refine (lex_Class.calls k2 (wrap64 (bt a0 ((rd_T31 t224 x8_2).f1))) t230 _ A25.out).mono ?_); rintro e w30 ⟨rfl, hb⟩; have n0_ := Aside0.mk (Kd.R_below (by (with_reducible repeat (first | apply Kd.R_alloc | apply Kd.R_drewN | apply Kd.R_drew)); exact HO_4.out) hb); have n1_ := Aside0.mk (below_step (by repeat (first | (with_reducible first | exact HB.out | apply below_alloc | apply pw_below_drewN | apply below_drew1) | exact HB.out)) hb); clear HO_4; clear HB; have HO_4 := n0_; have HB := n1_; clear n0_ n1_; (try clear hb); (try clear hb2); (try clear hk); (try clear hi); have p231 : 0 ≤ (x8_2 : Int) := of_decide_eq_true (by first | (with_reducible assumption) | assumption); have q231 : x8_2 < (t224.length : Int) := of_decide_eq_true (by first | (with_reducible assumption) | assumption); obtain ⟨ad231, e231, hx231_0, hx231_1, hx231_2, hx231_3⟩ := at_T31 (Kd.R_reads' HO_4.out).2.2 x8_2 p231 q231; obtain rfl : ad229 = ad231 := (by injection e231); replace p231 := eq_true p231; replace q231 := eq_true q231; have p232 : 0 ≤ (x8_2 : Int) := of_decide_eq_true (by first | (with_reducible assumption) | assumption); have q232 : x8_2 < (t224.length : Int) := of_decide_eq_true (by first | (with_reducible assumption) | assumption); obtain ⟨ad232, e232, hx232_0, hx232_1, hx232_2, hx232_3⟩ := at_T31 (Kd.R_reads' HO_4.out).2.2 x8_2 p232 q232; obtain rfl : ad229 = ad232 := (by injection e232); replace p232 := eq_true p232; replace q232 := eq_true q232)))
                                go_meet
                                case rel => exact ⟨_, (decide (((rd_T31 t224 x8_2).f0) > 11)), (by first | rfl | (simp; done) | (simp [*]; done)), H', ⟨by have := HJ5.out; have := HK2.out; first | omega | exact Nat.le_refl _⟩, ⟨by (with_reducible repeat (first | apply Kd.R_alloc | apply Kd.R_drewN | apply Kd.R_drew)); exact HO_4.out⟩, ⟨by repeat (first | (with_reducible first | exact HB.out | apply below_alloc | apply pw_below_drewN | apply below_drew1) | exact HB.out)⟩⟩
                          · rw [if_neg c23] at H
                            exact absurd H (by simp)
                        · rw [if_neg c22] at H
                          exact absurd H (by simp)
                  case rest =>
                    clear HC18
                    try clear c1
                    try clear c2
                    try clear p2
                    try clear q2
                    try clear hx2
                    try clear c3
                    try clear c3b0
                    try clear c3b1
                    try clear c4
                    try clear p6
                    try clear c9
                    try clear c9b0
                    try clear c10
                    try clear c10b0
                    try clear c11
                    try clear c11b0
                    try clear c11b1
                    try clear c12
                    try clear c12b0
                    try clear c12b1
                    try clear c13
                    try clear c13b0
                    try clear c13b1
                    try clear c14
                    try clear c14b0
                    try clear c14b1
                    try clear c15
                    try clear c16
                    try clear c16b0
                    try clear c17
                    try clear c17b0
                    try clear c20
                    try clear c20b0
                    try clear c21
                    try clear c21b0
                    try clear c22
                    try clear c22b0
                    try clear p22
                    try clear q22
                    try clear hx22
                    try clear c23
                    try clear c23b0
                    try clear p23
                    try clear q23
                    try clear hx23
                    try clear p24
                    try clear q24
                    try clear hx24
                    try clear c26
                    try clear c26b0
                    try clear c26b1
                    try clear c28
                    try clear c28b0
                    try clear hx229_0
                    try clear hx229_1
                    try clear hx229_2
                    try clear hx229_3
                    try clear hx231_0
                    try clear hx231_1
                    try clear hx231_2
                    try clear hx231_3
                    try clear hx232_0
                    try clear hx232_1
                    try clear hx232_2
                    try clear hx232_3
                    try clear p2
                    try clear p229
                    try clear p231
                    try clear p232
                    try clear p24
                    try clear q229
                    try clear q231
                    try clear q232
                    try clear q24
                    obtain ⟨kq, x95_17, rfl, HA, HJ17, HO_4, HB⟩ := hcut
                    cases kq with
                    | zero => exact absurd HA.out (by simp [hornbooklaw04_TokPlaces.j2])
                    | succ kj17 =>
                      have H := HA.out
                      clear HA
                      simp only [hornbooklaw04_TokPlaces.j2] at H
                      by_cases c31 : x95_17 = true
                      · subst c31
                        have H1 : (some false) = some r := by rw [if_pos rfl] at H; exact H
                        clear H
                        have H := H1
                        clear H1
                        obtain rfl := Option.some.inj H
                        go_wp2
                        repeat (go_quiet (fail); try go_wp2)
                        go_ret
                        exact ⟨by first | rfl | (simp [errW_none, errW_some] <;> rfl) | (simp [*, errW_none, errW_some] <;> rfl), by repeat (first | (with_reducible first | exact HB.out | apply below_alloc | apply pw_below_drewN | apply below_drew1) | exact HB.out)⟩
                      · replace c31 := Bool.eq_false_iff.mpr c31
                        subst c31
                        have H1 : ((tok_Next.f kj17 a0 ((rd_T31 t224 x8_2).f1)).bind fun bt233 => (if bt233.2.2.2.2.2 = 0 then (if 0 ≤ x8_2 then (if x8_2 < (t224.length : Int) then (if (!(bt233.1 == ((rd_T31 t224 x8_2).f0)) || (!(bt233.2.1 == ((rd_T31 t224 x8_2).f1)) || (!(bt233.2.2.1 == ((rd_T31 t224 x8_2).f2)) || (!(bt233.2.2.2.1.toList == (((rd_T31 t224 x8_2).f3).toList)))))) = true then (some false) else (if bt233.2.2.2.2.1 ≤ ((rd_T31 t224 x8_2).f1) then (some false) else (hornbooklaw04_TokPlaces.l0 kj17 a0 t223 t224 bt233.2.2.2.2.1 (wrap64 (x8_2 + 1))))) else (none)) else (none)) else (some false))) = some r := by rw [if_neg (show ¬ (false = true) by decide)] at H; exact H
                        clear H
                        have H := H1
                        clear H1
                        replace H := Option.bind_eq_some_iff.mp H
                        obtain ⟨⟨t233, t234, t235, t236, t237, t238⟩, A320, H⟩ := H
                        replace H : (if t238 = 0 then (if 0 ≤ x8_2 then (if x8_2 < (t224.length : Int) then (if (!(t233 == ((rd_T31 t224 x8_2).f0)) || (!(t234 == ((rd_T31 t224 x8_2).f1)) || (!(t235 == ((rd_T31 t224 x8_2).f2)) || (!(t236.toList == (((rd_T31 t224 x8_2).f3).toList)))))) = true then (some false) else (if t237 ≤ ((rd_T31 t224 x8_2).f1) then (some false) else (hornbooklaw04_TokPlaces.l0 kj17 a0 t223 t224 t237 (wrap64 (x8_2 + 1))))) else (none)) else (none)) else (some false)) = some r := H
                        have A32 := Aside0.mk A320
                        clear A320
                        by_cases c33 : t238 = 0
                        · rw [if_pos c33] at H
                          have c33b0 : (t238 == 0) = true := beq_iff_eq.mpr c33
                          have c33b1 : (t238 != 0) = false := bne_eq_false_iff_eq.mpr c33
                          clear c33
                          by_cases c34 : 0 ≤ x8_2
                          · rw [if_pos c34] at H
                            have c34b0 : decide (0 ≤ x8_2) = true := decide_eq_true c34
                            clear c34
                            by_cases c35 : x8_2 < (t224.length : Int)
                            · rw [if_pos c35] at H
                              have c35b0 : decide (x8_2 < (t224.length : Int)) = true := decide_eq_true c35
                              clear c35
                              by_cases c36 : (!(t233 == ((rd_T31 t224 x8_2).f0)) || (!(t234 == ((rd_T31 t224 x8_2).f1)) || (!(t235 == ((rd_T31 t224 x8_2).f2)) || (!(t236.toList == (((rd_T31 t224 x8_2).f3).toList)))))) = true
                              · rw [if_pos c36] at H
                                have c36b0 : (!(t233 == ((rd_T31 t224 x8_2).f0)) || (!(t234 == ((rd_T31 t224 x8_2).f1)) || (!(t235 == ((rd_T31 t224 x8_2).f2)) || (!(t236.toList == (((rd_T31 t224 x8_2).f3).toList)))))) = true := c36
                                (try (have c36b1 : ¬ (((t233 = ((rd_T31 t224 x8_2).f0)) ∧ ((t234 = ((rd_T31 t224 x8_2).f1)) ∧ ((t235 = ((rd_T31 t224 x8_2).f2)) ∧ ((t236.toList = (((rd_T31 t224 x8_2).f3).toList))))))) := by first | simpa using c36 | (intro h_; simp [h_] at c36)))
                                clear c36
                                obtain rfl := Option.some.inj H
                                go_wp2_with (first | (go_at_call 13; (with_reducible refine (tok_Next.calls kj17 a0 ((rd_T31 t224 x8_2).f1) t233 t234 t235 t236 t237 t238 _ ?side1 A32.out).mono ?_); (case side1 => exact GW.below (by repeat (first | (with_reducible first | exact HB.out | apply below_alloc | apply pw_below_drewN | apply below_drew1) | exact HB.out)) HG.out); rintro e w37 ⟨rfl, hb⟩; have n0_ := Aside0.mk (Kd.R_below (by (with_reducible repeat (first | apply Kd.R_alloc | apply Kd.R_drewN | apply Kd.R_drew)); exact HO_4.out) hb); have n1_ := Aside0.mk (below_step (by repeat (first | (with_reducible first | exact HB.out | apply below_alloc | apply pw_below_drewN | apply below_drew1) | exact HB.out)) hb); clear HO_4; clear HB; have HO_4 := n0_; have HB := n1_; clear n0_ n1_; (try clear hb); (try clear hb2); (try clear hk); (try clear hi)) | ((with_reducible refine gate_dst (N := 10) rfl ?_); (try (refine gate_guard (by rfl) ?_; dsimp only)); refine box_event ?hg (N := 10) ?hd (cs := #[.int .i64 0, .int .i64 0, .int .i64 0, .string (⟨#[]⟩ : ByteArray)]) (t := 31) ?hr ?_; (case hd => rfl); (case hg => rfl); (case hr => first | (go_simp; done) | (go_simp; rfl)); intro gb239 hg w38 hbox hb; have n0_ := Aside0.mk (Kd.R_below (Kd.R_elderB (by (with_reducible repeat (first | apply Kd.R_alloc | apply Kd.R_drewN | apply Kd.R_drew)); exact HO_4.out) gb239 (Nat.le_of_eq hg.symm)) hb); have n1_ := Aside0.mk (below_step (by repeat (first | (with_reducible first | exact HB.out | apply below_alloc | apply pw_below_drewN | apply below_drew1) | exact HB.out)) hb); have n2_ := Aside0.mk (hbox); have n3_ := Aside0.mk ((by rw [hg]; exact (below_size (by repeat (first | (with_reducible first | exact HB.out | apply below_alloc | apply pw_below_drewN | apply below_drew1) | exact HB.out))) : w.heap.size ≤ gb239)); have n4_ := Aside0.mk ((by rw [hg]; exact (below_size (by repeat (first | (with_reducible first | exact HB.out | apply below_alloc | apply pw_below_drewN | apply below_drew1) | exact HB.out))) : w.heap.size ≤ gb239)); clear HO_4; clear HB; have HO_4 := n0_; have HB := n1_; have BK239 := n2_; have GW239 := n3_; have GE239 := n4_; clear n0_ n1_ n2_ n3_ n4_; clear hb hbox hg; have hcz39_0 : w38.cell? ⟨gb239, 0, none⟩ = some (.int .i64 0) := (blk_cell BK239.out 0).trans rfl; have hcz39_1 : w38.cell? ⟨gb239, 1, none⟩ = some (.int .i64 0) := (blk_cell BK239.out 1).trans rfl; have hcz39_2 : w38.cell? ⟨gb239, 2, none⟩ = some (.int .i64 0) := (blk_cell BK239.out 2).trans rfl; have hcz39_3 : w38.cell? ⟨gb239, 3, none⟩ = some (.string (⟨#[]⟩ : ByteArray)) := (blk_cell BK239.out 3).trans rfl; have hfz39_0 := blk_frozen BK239.out 0; have hfz39_1 := blk_frozen BK239.out 1; have hfz39_2 := blk_frozen BK239.out 2; have hfz39_3 := blk_frozen BK239.out 3; have p240 : 0 ≤ (x8_2 : Int) := of_decide_eq_true (by first | (with_reducible assumption) | assumption); have q240 : x8_2 < (t224.length : Int) := of_decide_eq_true (by first | (with_reducible assumption) | assumption); obtain ⟨ad240, e240, hx240_0, hx240_1, hx240_2, hx240_3⟩ := at_T31 (Kd.R_reads' HO_4.out).2.2 x8_2 p240 q240; obtain rfl : ad229 = ad240 := (by injection e240); have hn240_0 : ad229.block ≠ gb239 := Kd.own_blk (Kd.R_ne HO_4.out BK239.out (by decide)); have hn240_1 : ad229.block ≠ gb239 := Kd.own_blk (Kd.R_ne HO_4.out BK239.out (by decide)); have hn240_2 : ad229.block ≠ gb239 := Kd.own_blk (Kd.R_ne HO_4.out BK239.out (by decide)); have hn240_3 : ad229.block ≠ gb239 := Kd.own_blk (Kd.R_ne HO_4.out BK239.out (by decide)); replace hx240_0 := (cell_far (p := ⟨gb239, 0, none⟩) (by first | (rw [add_block]; exact hn240_0) | (show (Addr.add _ _).block ≠ _; rw [add_block]; exact hn240_0) | exact hn240_0) (.int .i64 t233)).trans hx240_0; replace hx240_1 := (cell_far (p := ⟨gb239, 0, none⟩) (by first | (rw [add_block]; exact hn240_0) | (show (Addr.add _ _).block ≠ _; rw [add_block]; exact hn240_0) | exact hn240_0) (.int .i64 t233)).trans hx240_1; replace hx240_2 := (cell_far (p := ⟨gb239, 0, none⟩) (by first | (rw [add_block]; exact hn240_0) | (show (Addr.add _ _).block ≠ _; rw [add_block]; exact hn240_0) | exact hn240_0) (.int .i64 t233)).trans hx240_2; replace hx240_3 := (cell_far (p := ⟨gb239, 0, none⟩) (by first | (rw [add_block]; exact hn240_0) | (show (Addr.add _ _).block ≠ _; rw [add_block]; exact hn240_0) | exact hn240_0) (.int .i64 t233)).trans hx240_3; replace hx240_0 := (cell_far (p := ⟨gb239, 1, none⟩) (by first | (rw [add_block]; exact hn240_1) | (show (Addr.add _ _).block ≠ _; rw [add_block]; exact hn240_1) | exact hn240_1) (.int .i64 t234)).trans hx240_0; replace hx240_1 := (cell_far (p := ⟨gb239, 1, none⟩) (by first | (rw [add_block]; exact hn240_1) | (show (Addr.add _ _).block ≠ _; rw [add_block]; exact hn240_1) | exact hn240_1) (.int .i64 t234)).trans hx240_1; replace hx240_2 := (cell_far (p := ⟨gb239, 1, none⟩) (by first | (rw [add_block]; exact hn240_1) | (show (Addr.add _ _).block ≠ _; rw [add_block]; exact hn240_1) | exact hn240_1) (.int .i64 t234)).trans hx240_2; replace hx240_3 := (cell_far (p := ⟨gb239, 1, none⟩) (by first | (rw [add_block]; exact hn240_1) | (show (Addr.add _ _).block ≠ _; rw [add_block]; exact hn240_1) | exact hn240_1) (.int .i64 t234)).trans hx240_3; replace hx240_0 := (cell_far (p := ⟨gb239, 2, none⟩) (by first | (rw [add_block]; exact hn240_2) | (show (Addr.add _ _).block ≠ _; rw [add_block]; exact hn240_2) | exact hn240_2) (.int .i64 t235)).trans hx240_0; replace hx240_1 := (cell_far (p := ⟨gb239, 2, none⟩) (by first | (rw [add_block]; exact hn240_2) | (show (Addr.add _ _).block ≠ _; rw [add_block]; exact hn240_2) | exact hn240_2) (.int .i64 t235)).trans hx240_1; replace hx240_2 := (cell_far (p := ⟨gb239, 2, none⟩) (by first | (rw [add_block]; exact hn240_2) | (show (Addr.add _ _).block ≠ _; rw [add_block]; exact hn240_2) | exact hn240_2) (.int .i64 t235)).trans hx240_2; replace hx240_3 := (cell_far (p := ⟨gb239, 2, none⟩) (by first | (rw [add_block]; exact hn240_2) | (show (Addr.add _ _).block ≠ _; rw [add_block]; exact hn240_2) | exact hn240_2) (.int .i64 t235)).trans hx240_3; replace hx240_0 := (cell_far (p := ⟨gb239, 3, none⟩) (by first | (rw [add_block]; exact hn240_3) | (show (Addr.add _ _).block ≠ _; rw [add_block]; exact hn240_3) | exact hn240_3) (.string t236)).trans hx240_0; replace hx240_1 := (cell_far (p := ⟨gb239, 3, none⟩) (by first | (rw [add_block]; exact hn240_3) | (show (Addr.add _ _).block ≠ _; rw [add_block]; exact hn240_3) | exact hn240_3) (.string t236)).trans hx240_1; replace hx240_2 := (cell_far (p := ⟨gb239, 3, none⟩) (by first | (rw [add_block]; exact hn240_3) | (show (Addr.add _ _).block ≠ _; rw [add_block]; exact hn240_3) | exact hn240_3) (.string t236)).trans hx240_2; replace hx240_3 := (cell_far (p := ⟨gb239, 3, none⟩) (by first | (rw [add_block]; exact hn240_3) | (show (Addr.add _ _).block ≠ _; rw [add_block]; exact hn240_3) | exact hn240_3) (.string t236)).trans hx240_3; (try have hy240_0 := fun (n_ : Nat) => (show ((((((w38.drewN n_).setCell ⟨gb239, 0, none⟩ (.int .i64 t233)).setCell ⟨gb239, 1, none⟩ (.int .i64 t234)).setCell ⟨gb239, 2, none⟩ (.int .i64 t235)).setCell ⟨gb239, 3, none⟩ (.string t236))).cell? _ = some _ from hx240_0)); (try have hy240_1 := fun (n_ : Nat) => (show ((((((w38.drewN n_).setCell ⟨gb239, 0, none⟩ (.int .i64 t233)).setCell ⟨gb239, 1, none⟩ (.int .i64 t234)).setCell ⟨gb239, 2, none⟩ (.int .i64 t235)).setCell ⟨gb239, 3, none⟩ (.string t236))).cell? _ = some _ from hx240_1)); (try have hy240_2 := fun (n_ : Nat) => (show ((((((w38.drewN n_).setCell ⟨gb239, 0, none⟩ (.int .i64 t233)).setCell ⟨gb239, 1, none⟩ (.int .i64 t234)).setCell ⟨gb239, 2, none⟩ (.int .i64 t235)).setCell ⟨gb239, 3, none⟩ (.string t236))).cell? _ = some _ from hx240_2)); (try have hy240_3 := fun (n_ : Nat) => (show ((((((w38.drewN n_).setCell ⟨gb239, 0, none⟩ (.int .i64 t233)).setCell ⟨gb239, 1, none⟩ (.int .i64 t234)).setCell ⟨gb239, 2, none⟩ (.int .i64 t235)).setCell ⟨gb239, 3, none⟩ (.string t236))).cell? _ = some _ from hx240_3)); clear hn240_0; clear hn240_1; clear hn240_2; clear hn240_3; replace p240 := eq_true p240; replace q240 := eq_true q240))
                                have p240 : 0 ≤ (x8_2 : Int) := of_decide_eq_true c34b0
                                have q240 : x8_2 < (t224.length : Int) := of_decide_eq_true c35b0
                                obtain ⟨ad240, e240, hx240_0, hx240_1, hx240_2, hx240_3⟩ := at_T31 (Kd.R_reads' (Kd.R_alloc (o := .cells #[.int .i64 t233, .int .i64 t234, .int .i64 t235, .string t236] 31) HO_4.out)).2.2 x8_2 p240 q240
                                obtain rfl : ad229 = ad240 := by injection e240
                                replace p240 := eq_true p240
                                replace q240 := eq_true q240
                                go_quiet (fail)
                                try go_wp2
                                go_ret
                                exact ⟨by first | rfl | (simp [errW_none, errW_some] <;> rfl) | (simp [*, errW_none, errW_some] <;> rfl), by repeat (first | (with_reducible first | exact HB.out | apply below_alloc | apply pw_below_drewN | apply below_drew1 | refine below_set ?_ GE239.out) | exact HB.out)⟩
                              · rw [if_neg c36] at H
                                have c36b0 : (!(t233 == ((rd_T31 t224 x8_2).f0)) || (!(t234 == ((rd_T31 t224 x8_2).f1)) || (!(t235 == ((rd_T31 t224 x8_2).f2)) || (!(t236.toList == (((rd_T31 t224 x8_2).f3).toList)))))) = false := by simpa using c36
                                (try (have c36b1 : (((t233 = ((rd_T31 t224 x8_2).f0)) ∧ ((t234 = ((rd_T31 t224 x8_2).f1)) ∧ ((t235 = ((rd_T31 t224 x8_2).f2)) ∧ ((t236.toList = (((rd_T31 t224 x8_2).f3).toList))))))) = True := eq_true (by simpa using c36)))
                                (try (have c36b2 : ((t233 = ((rd_T31 t224 x8_2).f0)) ∧ ((t234 = ((rd_T31 t224 x8_2).f1)) ∧ ((t235 = ((rd_T31 t224 x8_2).f2)) ∧ ((t236.toList = (((rd_T31 t224 x8_2).f3).toList)))))) := by simpa using c36))
                                clear c36
                                by_cases c40 : t237 ≤ ((rd_T31 t224 x8_2).f1)
                                · rw [if_pos c40] at H
                                  have c40b0 : decide (t237 ≤ ((rd_T31 t224 x8_2).f1)) = true := decide_eq_true c40
                                  clear c40
                                  obtain rfl := Option.some.inj H
                                  go_wp2_with (first | (go_at_call 13; (with_reducible refine (tok_Next.calls kj17 a0 ((rd_T31 t224 x8_2).f1) t233 t234 t235 t236 t237 t238 _ ?side1 A32.out).mono ?_); (case side1 => exact GW.below (by repeat (first | (with_reducible first | exact HB.out | apply below_alloc | apply pw_below_drewN | apply below_drew1) | exact HB.out)) HG.out); rintro e w41 ⟨rfl, hb⟩; have n0_ := Aside0.mk (Kd.R_below (by (with_reducible repeat (first | apply Kd.R_alloc | apply Kd.R_drewN | apply Kd.R_drew)); exact HO_4.out) hb); have n1_ := Aside0.mk (below_step (by repeat (first | (with_reducible first | exact HB.out | apply below_alloc | apply pw_below_drewN | apply below_drew1) | exact HB.out)) hb); clear HO_4; clear HB; have HO_4 := n0_; have HB := n1_; clear n0_ n1_; (try clear hb); (try clear hb2); (try clear hk); (try clear hi)) | ((with_reducible refine gate_dst (N := 10) rfl ?_); (try (refine gate_guard (by rfl) ?_; dsimp only)); refine box_event ?hg (N := 10) ?hd (cs := #[.int .i64 0, .int .i64 0, .int .i64 0, .string (⟨#[]⟩ : ByteArray)]) (t := 31) ?hr ?_; (case hd => rfl); (case hg => rfl); (case hr => first | (go_simp; done) | (go_simp; rfl)); intro gb239 hg w42 hbox hb; have n0_ := Aside0.mk (Kd.R_below (Kd.R_elderB (by (with_reducible repeat (first | apply Kd.R_alloc | apply Kd.R_drewN | apply Kd.R_drew)); exact HO_4.out) gb239 (Nat.le_of_eq hg.symm)) hb); have n1_ := Aside0.mk (below_step (by repeat (first | (with_reducible first | exact HB.out | apply below_alloc | apply pw_below_drewN | apply below_drew1) | exact HB.out)) hb); have n2_ := Aside0.mk (hbox); have n3_ := Aside0.mk ((by rw [hg]; exact (below_size (by repeat (first | (with_reducible first | exact HB.out | apply below_alloc | apply pw_below_drewN | apply below_drew1) | exact HB.out))) : w.heap.size ≤ gb239)); have n4_ := Aside0.mk ((by rw [hg]; exact (below_size (by repeat (first | (with_reducible first | exact HB.out | apply below_alloc | apply pw_below_drewN | apply below_drew1) | exact HB.out))) : w.heap.size ≤ gb239)); clear HO_4; clear HB; have HO_4 := n0_; have HB := n1_; have BK239 := n2_; have GW239 := n3_; have GE239 := n4_; clear n0_ n1_ n2_ n3_ n4_; clear hb hbox hg; have hcz43_0 : w42.cell? ⟨gb239, 0, none⟩ = some (.int .i64 0) := (blk_cell BK239.out 0).trans rfl; have hcz43_1 : w42.cell? ⟨gb239, 1, none⟩ = some (.int .i64 0) := (blk_cell BK239.out 1).trans rfl; have hcz43_2 : w42.cell? ⟨gb239, 2, none⟩ = some (.int .i64 0) := (blk_cell BK239.out 2).trans rfl; have hcz43_3 : w42.cell? ⟨gb239, 3, none⟩ = some (.string (⟨#[]⟩ : ByteArray)) := (blk_cell BK239.out 3).trans rfl; have hfz43_0 := blk_frozen BK239.out 0; have hfz43_1 := blk_frozen BK239.out 1; have hfz43_2 := blk_frozen BK239.out 2; have hfz43_3 := blk_frozen BK239.out 3; have p240 : 0 ≤ (x8_2 : Int) := of_decide_eq_true (by first | (with_reducible assumption) | assumption); have q240 : x8_2 < (t224.length : Int) := of_decide_eq_true (by first | (with_reducible assumption) | assumption); obtain ⟨ad240, e240, hx240_0, hx240_1, hx240_2, hx240_3⟩ := at_T31 (Kd.R_reads' HO_4.out).2.2 x8_2 p240 q240; obtain rfl : ad229 = ad240 := (by injection e240); have hn240_0 : ad229.block ≠ gb239 := Kd.own_blk (Kd.R_ne HO_4.out BK239.out (by decide)); have hn240_1 : ad229.block ≠ gb239 := Kd.own_blk (Kd.R_ne HO_4.out BK239.out (by decide)); have hn240_2 : ad229.block ≠ gb239 := Kd.own_blk (Kd.R_ne HO_4.out BK239.out (by decide)); have hn240_3 : ad229.block ≠ gb239 := Kd.own_blk (Kd.R_ne HO_4.out BK239.out (by decide)); replace hx240_0 := (cell_far (p := ⟨gb239, 0, none⟩) (by first | (rw [add_block]; exact hn240_0) | (show (Addr.add _ _).block ≠ _; rw [add_block]; exact hn240_0) | exact hn240_0) (.int .i64 t233)).trans hx240_0; replace hx240_1 := (cell_far (p := ⟨gb239, 0, none⟩) (by first | (rw [add_block]; exact hn240_0) | (show (Addr.add _ _).block ≠ _; rw [add_block]; exact hn240_0) | exact hn240_0) (.int .i64 t233)).trans hx240_1; replace hx240_2 := (cell_far (p := ⟨gb239, 0, none⟩) (by first | (rw [add_block]; exact hn240_0) | (show (Addr.add _ _).block ≠ _; rw [add_block]; exact hn240_0) | exact hn240_0) (.int .i64 t233)).trans hx240_2; replace hx240_3 := (cell_far (p := ⟨gb239, 0, none⟩) (by first | (rw [add_block]; exact hn240_0) | (show (Addr.add _ _).block ≠ _; rw [add_block]; exact hn240_0) | exact hn240_0) (.int .i64 t233)).trans hx240_3; replace hx240_0 := (cell_far (p := ⟨gb239, 1, none⟩) (by first | (rw [add_block]; exact hn240_1) | (show (Addr.add _ _).block ≠ _; rw [add_block]; exact hn240_1) | exact hn240_1) (.int .i64 t234)).trans hx240_0; replace hx240_1 := (cell_far (p := ⟨gb239, 1, none⟩) (by first | (rw [add_block]; exact hn240_1) | (show (Addr.add _ _).block ≠ _; rw [add_block]; exact hn240_1) | exact hn240_1) (.int .i64 t234)).trans hx240_1; replace hx240_2 := (cell_far (p := ⟨gb239, 1, none⟩) (by first | (rw [add_block]; exact hn240_1) | (show (Addr.add _ _).block ≠ _; rw [add_block]; exact hn240_1) | exact hn240_1) (.int .i64 t234)).trans hx240_2; replace hx240_3 := (cell_far (p := ⟨gb239, 1, none⟩) (by first | (rw [add_block]; exact hn240_1) | (show (Addr.add _ _).block ≠ _; rw [add_block]; exact hn240_1) | exact hn240_1) (.int .i64 t234)).trans hx240_3; replace hx240_0 := (cell_far (p := ⟨gb239, 2, none⟩) (by first | (rw [add_block]; exact hn240_2) | (show (Addr.add _ _).block ≠ _; rw [add_block]; exact hn240_2) | exact hn240_2) (.int .i64 t235)).trans hx240_0; replace hx240_1 := (cell_far (p := ⟨gb239, 2, none⟩) (by first | (rw [add_block]; exact hn240_2) | (show (Addr.add _ _).block ≠ _; rw [add_block]; exact hn240_2) | exact hn240_2) (.int .i64 t235)).trans hx240_1; replace hx240_2 := (cell_far (p := ⟨gb239, 2, none⟩) (by first | (rw [add_block]; exact hn240_2) | (show (Addr.add _ _).block ≠ _; rw [add_block]; exact hn240_2) | exact hn240_2) (.int .i64 t235)).trans hx240_2; replace hx240_3 := (cell_far (p := ⟨gb239, 2, none⟩) (by first | (rw [add_block]; exact hn240_2) | (show (Addr.add _ _).block ≠ _; rw [add_block]; exact hn240_2) | exact hn240_2) (.int .i64 t235)).trans hx240_3; replace hx240_0 := (cell_far (p := ⟨gb239, 3, none⟩) (by first | (rw [add_block]; exact hn240_3) | (show (Addr.add _ _).block ≠ _; rw [add_block]; exact hn240_3) | exact hn240_3) (.string t236)).trans hx240_0; replace hx240_1 := (cell_far (p := ⟨gb239, 3, none⟩) (by first | (rw [add_block]; exact hn240_3) | (show (Addr.add _ _).block ≠ _; rw [add_block]; exact hn240_3) | exact hn240_3) (.string t236)).trans hx240_1; replace hx240_2 := (cell_far (p := ⟨gb239, 3, none⟩) (by first | (rw [add_block]; exact hn240_3) | (show (Addr.add _ _).block ≠ _; rw [add_block]; exact hn240_3) | exact hn240_3) (.string t236)).trans hx240_2; replace hx240_3 := (cell_far (p := ⟨gb239, 3, none⟩) (by first | (rw [add_block]; exact hn240_3) | (show (Addr.add _ _).block ≠ _; rw [add_block]; exact hn240_3) | exact hn240_3) (.string t236)).trans hx240_3; (try have hy240_0 := fun (n_ : Nat) => (show ((((((w42.drewN n_).setCell ⟨gb239, 0, none⟩ (.int .i64 t233)).setCell ⟨gb239, 1, none⟩ (.int .i64 t234)).setCell ⟨gb239, 2, none⟩ (.int .i64 t235)).setCell ⟨gb239, 3, none⟩ (.string t236))).cell? _ = some _ from hx240_0)); (try have hy240_1 := fun (n_ : Nat) => (show ((((((w42.drewN n_).setCell ⟨gb239, 0, none⟩ (.int .i64 t233)).setCell ⟨gb239, 1, none⟩ (.int .i64 t234)).setCell ⟨gb239, 2, none⟩ (.int .i64 t235)).setCell ⟨gb239, 3, none⟩ (.string t236))).cell? _ = some _ from hx240_1)); (try have hy240_2 := fun (n_ : Nat) => (show ((((((w42.drewN n_).setCell ⟨gb239, 0, none⟩ (.int .i64 t233)).setCell ⟨gb239, 1, none⟩ (.int .i64 t234)).setCell ⟨gb239, 2, none⟩ (.int .i64 t235)).setCell ⟨gb239, 3, none⟩ (.string t236))).cell? _ = some _ from hx240_2)); (try have hy240_3 := fun (n_ : Nat) => (show ((((((w42.drewN n_).setCell ⟨gb239, 0, none⟩ (.int .i64 t233)).setCell ⟨gb239, 1, none⟩ (.int .i64 t234)).setCell ⟨gb239, 2, none⟩ (.int .i64 t235)).setCell ⟨gb239, 3, none⟩ (.string t236))).cell? _ = some _ from hx240_3)); clear hn240_0; clear hn240_1; clear hn240_2; clear hn240_3; replace p240 := eq_true p240; replace q240 := eq_true q240))
                                  obtain ⟨e1_, e2_, e3_, e4_⟩ := c36b2
                                  have e5_ : t236 = (rd_T31 t224 x8_2).f3 := by rw [ByteArray.toList_eq, ByteArray.toList_eq] at e4_; exact ByteArray.ext (Array.toList_inj.1 e4_)
                                  clear e4_ c36b0 c36b1
                                  subst e1_ e2_ e3_ e5_
                                  have p240 : 0 ≤ (x8_2 : Int) := of_decide_eq_true c34b0
                                  have q240 : x8_2 < (t224.length : Int) := of_decide_eq_true c35b0
                                  obtain ⟨ad240, e240, hx240_0, hx240_1, hx240_2, hx240_3⟩ := at_T31 (Kd.R_reads' (Kd.R_alloc (o := .cells #[.int .i64 (rd_T31 t224 x8_2).f0, .int .i64 (rd_T31 t224 x8_2).f1, .int .i64 (rd_T31 t224 x8_2).f2, .string (rd_T31 t224 x8_2).f3] 31) HO_4.out)).2.2 x8_2 p240 q240
                                  obtain rfl : ad229 = ad240 := by injection e240
                                  replace p240 := eq_true p240
                                  replace q240 := eq_true q240
                                  go_quiet (fail)
                                  try go_wp2
                                  go_ret
                                  exact ⟨by first | rfl | (simp [errW_none, errW_some] <;> rfl) | (simp [*, errW_none, errW_some] <;> rfl), by repeat (first | (with_reducible first | exact HB.out | apply below_alloc | apply pw_below_drewN | apply below_drew1 | refine below_set ?_ GE239.out) | exact HB.out)⟩
                                · rw [if_neg c40] at H
                                  have c40b0 : decide (t237 ≤ ((rd_T31 t224 x8_2).f1)) = false := decide_eq_false c40
                                  clear c40
                                  have H' := Aside0.mk H
                                  clear H
                                  go_wp2_with (first | (go_at_call 13; (with_reducible refine (tok_Next.calls kj17 a0 ((rd_T31 t224 x8_2).f1) t233 t234 t235 t236 t237 t238 _ ?side1 A32.out).mono ?_); (case side1 => exact GW.below (by repeat (first | (with_reducible first | exact HB.out | apply below_alloc | apply pw_below_drewN | apply below_drew1) | exact HB.out)) HG.out); rintro e w44 ⟨rfl, hb⟩; have n0_ := Aside0.mk (Kd.R_below (by (with_reducible repeat (first | apply Kd.R_alloc | apply Kd.R_drewN | apply Kd.R_drew)); exact HO_4.out) hb); have n1_ := Aside0.mk (below_step (by repeat (first | (with_reducible first | exact HB.out | apply below_alloc | apply pw_below_drewN | apply below_drew1) | exact HB.out)) hb); clear HO_4; clear HB; have HO_4 := n0_; have HB := n1_; clear n0_ n1_; (try clear hb); (try clear hb2); (try clear hk); (try clear hi)) | ((with_reducible refine gate_dst (N := 10) rfl ?_); (try (refine gate_guard (by rfl) ?_; dsimp only)); refine box_event ?hg (N := 10) ?hd (cs := #[.int .i64 0, .int .i64 0, .int .i64 0, .string (⟨#[]⟩ : ByteArray)]) (t := 31) ?hr ?_; (case hd => rfl); (case hg => rfl); (case hr => first | (go_simp; done) | (go_simp; rfl)); intro gb239 hg w45 hbox hb; have n0_ := Aside0.mk (Kd.R_below (Kd.R_elderB (by (with_reducible repeat (first | apply Kd.R_alloc | apply Kd.R_drewN | apply Kd.R_drew)); exact HO_4.out) gb239 (Nat.le_of_eq hg.symm)) hb); have n1_ := Aside0.mk (below_step (by repeat (first | (with_reducible first | exact HB.out | apply below_alloc | apply pw_below_drewN | apply below_drew1) | exact HB.out)) hb); have n2_ := Aside0.mk (hbox); have n3_ := Aside0.mk ((by rw [hg]; exact (below_size (by repeat (first | (with_reducible first | exact HB.out | apply below_alloc | apply pw_below_drewN | apply below_drew1) | exact HB.out))) : w.heap.size ≤ gb239)); have n4_ := Aside0.mk ((by rw [hg]; exact (below_size (by repeat (first | (with_reducible first | exact HB.out | apply below_alloc | apply pw_below_drewN | apply below_drew1) | exact HB.out))) : w.heap.size ≤ gb239)); clear HO_4; clear HB; have HO_4 := n0_; have HB := n1_; have BK239 := n2_; have GW239 := n3_; have GE239 := n4_; clear n0_ n1_ n2_ n3_ n4_; clear hb hbox hg; have hcz46_0 : w45.cell? ⟨gb239, 0, none⟩ = some (.int .i64 0) := (blk_cell BK239.out 0).trans rfl; have hcz46_1 : w45.cell? ⟨gb239, 1, none⟩ = some (.int .i64 0) := (blk_cell BK239.out 1).trans rfl; have hcz46_2 : w45.cell? ⟨gb239, 2, none⟩ = some (.int .i64 0) := (blk_cell BK239.out 2).trans rfl; have hcz46_3 : w45.cell? ⟨gb239, 3, none⟩ = some (.string (⟨#[]⟩ : ByteArray)) := (blk_cell BK239.out 3).trans rfl; have hfz46_0 := blk_frozen BK239.out 0; have hfz46_1 := blk_frozen BK239.out 1; have hfz46_2 := blk_frozen BK239.out 2; have hfz46_3 := blk_frozen BK239.out 3; have p240 : 0 ≤ (x8_2 : Int) := of_decide_eq_true (by first | (with_reducible assumption) | assumption); have q240 : x8_2 < (t224.length : Int) := of_decide_eq_true (by first | (with_reducible assumption) | assumption); obtain ⟨ad240, e240, hx240_0, hx240_1, hx240_2, hx240_3⟩ := at_T31 (Kd.R_reads' HO_4.out).2.2 x8_2 p240 q240; obtain rfl : ad229 = ad240 := (by injection e240); have hn240_0 : ad229.block ≠ gb239 := Kd.own_blk (Kd.R_ne HO_4.out BK239.out (by decide)); have hn240_1 : ad229.block ≠ gb239 := Kd.own_blk (Kd.R_ne HO_4.out BK239.out (by decide)); have hn240_2 : ad229.block ≠ gb239 := Kd.own_blk (Kd.R_ne HO_4.out BK239.out (by decide)); have hn240_3 : ad229.block ≠ gb239 := Kd.own_blk (Kd.R_ne HO_4.out BK239.out (by decide)); replace hx240_0 := (cell_far (p := ⟨gb239, 0, none⟩) (by first | (rw [add_block]; exact hn240_0) | (show (Addr.add _ _).block ≠ _; rw [add_block]; exact hn240_0) | exact hn240_0) (.int .i64 t233)).trans hx240_0; replace hx240_1 := (cell_far (p := ⟨gb239, 0, none⟩) (by first | (rw [add_block]; exact hn240_0) | (show (Addr.add _ _).block ≠ _; rw [add_block]; exact hn240_0) | exact hn240_0) (.int .i64 t233)).trans hx240_1; replace hx240_2 := (cell_far (p := ⟨gb239, 0, none⟩) (by first | (rw [add_block]; exact hn240_0) | (show (Addr.add _ _).block ≠ _; rw [add_block]; exact hn240_0) | exact hn240_0) (.int .i64 t233)).trans hx240_2; replace hx240_3 := (cell_far (p := ⟨gb239, 0, none⟩) (by first | (rw [add_block]; exact hn240_0) | (show (Addr.add _ _).block ≠ _; rw [add_block]; exact hn240_0) | exact hn240_0) (.int .i64 t233)).trans hx240_3; replace hx240_0 := (cell_far (p := ⟨gb239, 1, none⟩) (by first | (rw [add_block]; exact hn240_1) | (show (Addr.add _ _).block ≠ _; rw [add_block]; exact hn240_1) | exact hn240_1) (.int .i64 t234)).trans hx240_0; replace hx240_1 := (cell_far (p := ⟨gb239, 1, none⟩) (by first | (rw [add_block]; exact hn240_1) | (show (Addr.add _ _).block ≠ _; rw [add_block]; exact hn240_1) | exact hn240_1) (.int .i64 t234)).trans hx240_1; replace hx240_2 := (cell_far (p := ⟨gb239, 1, none⟩) (by first | (rw [add_block]; exact hn240_1) | (show (Addr.add _ _).block ≠ _; rw [add_block]; exact hn240_1) | exact hn240_1) (.int .i64 t234)).trans hx240_2; replace hx240_3 := (cell_far (p := ⟨gb239, 1, none⟩) (by first | (rw [add_block]; exact hn240_1) | (show (Addr.add _ _).block ≠ _; rw [add_block]; exact hn240_1) | exact hn240_1) (.int .i64 t234)).trans hx240_3; replace hx240_0 := (cell_far (p := ⟨gb239, 2, none⟩) (by first | (rw [add_block]; exact hn240_2) | (show (Addr.add _ _).block ≠ _; rw [add_block]; exact hn240_2) | exact hn240_2) (.int .i64 t235)).trans hx240_0; replace hx240_1 := (cell_far (p := ⟨gb239, 2, none⟩) (by first | (rw [add_block]; exact hn240_2) | (show (Addr.add _ _).block ≠ _; rw [add_block]; exact hn240_2) | exact hn240_2) (.int .i64 t235)).trans hx240_1; replace hx240_2 := (cell_far (p := ⟨gb239, 2, none⟩) (by first | (rw [add_block]; exact hn240_2) | (show (Addr.add _ _).block ≠ _; rw [add_block]; exact hn240_2) | exact hn240_2) (.int .i64 t235)).trans hx240_2; replace hx240_3 := (cell_far (p := ⟨gb239, 2, none⟩) (by first | (rw [add_block]; exact hn240_2) | (show (Addr.add _ _).block ≠ _; rw [add_block]; exact hn240_2) | exact hn240_2) (.int .i64 t235)).trans hx240_3; replace hx240_0 := (cell_far (p := ⟨gb239, 3, none⟩) (by first | (rw [add_block]; exact hn240_3) | (show (Addr.add _ _).block ≠ _; rw [add_block]; exact hn240_3) | exact hn240_3) (.string t236)).trans hx240_0; replace hx240_1 := (cell_far (p := ⟨gb239, 3, none⟩) (by first | (rw [add_block]; exact hn240_3) | (show (Addr.add _ _).block ≠ _; rw [add_block]; exact hn240_3) | exact hn240_3) (.string t236)).trans hx240_1; replace hx240_2 := (cell_far (p := ⟨gb239, 3, none⟩) (by first | (rw [add_block]; exact hn240_3) | (show (Addr.add _ _).block ≠ _; rw [add_block]; exact hn240_3) | exact hn240_3) (.string t236)).trans hx240_2; replace hx240_3 := (cell_far (p := ⟨gb239, 3, none⟩) (by first | (rw [add_block]; exact hn240_3) | (show (Addr.add _ _).block ≠ _; rw [add_block]; exact hn240_3) | exact hn240_3) (.string t236)).trans hx240_3; (try have hy240_0 := fun (n_ : Nat) => (show ((((((w45.drewN n_).setCell ⟨gb239, 0, none⟩ (.int .i64 t233)).setCell ⟨gb239, 1, none⟩ (.int .i64 t234)).setCell ⟨gb239, 2, none⟩ (.int .i64 t235)).setCell ⟨gb239, 3, none⟩ (.string t236))).cell? _ = some _ from hx240_0)); (try have hy240_1 := fun (n_ : Nat) => (show ((((((w45.drewN n_).setCell ⟨gb239, 0, none⟩ (.int .i64 t233)).setCell ⟨gb239, 1, none⟩ (.int .i64 t234)).setCell ⟨gb239, 2, none⟩ (.int .i64 t235)).setCell ⟨gb239, 3, none⟩ (.string t236))).cell? _ = some _ from hx240_1)); (try have hy240_2 := fun (n_ : Nat) => (show ((((((w45.drewN n_).setCell ⟨gb239, 0, none⟩ (.int .i64 t233)).setCell ⟨gb239, 1, none⟩ (.int .i64 t234)).setCell ⟨gb239, 2, none⟩ (.int .i64 t235)).setCell ⟨gb239, 3, none⟩ (.string t236))).cell? _ = some _ from hx240_2)); (try have hy240_3 := fun (n_ : Nat) => (show ((((((w45.drewN n_).setCell ⟨gb239, 0, none⟩ (.int .i64 t233)).setCell ⟨gb239, 1, none⟩ (.int .i64 t234)).setCell ⟨gb239, 2, none⟩ (.int .i64 t235)).setCell ⟨gb239, 3, none⟩ (.string t236))).cell? _ = some _ from hx240_3)); clear hn240_0; clear hn240_1; clear hn240_2; clear hn240_3; replace p240 := eq_true p240; replace q240 := eq_true q240))
                                  obtain ⟨e1_, e2_, e3_, e4_⟩ := c36b2
                                  have e5_ : t236 = (rd_T31 t224 x8_2).f3 := by rw [ByteArray.toList_eq, ByteArray.toList_eq] at e4_; exact ByteArray.ext (Array.toList_inj.1 e4_)
                                  clear e4_ c36b0 c36b1
                                  subst e1_ e2_ e3_ e5_
                                  have p240 : 0 ≤ (x8_2 : Int) := of_decide_eq_true c34b0
                                  have q240 : x8_2 < (t224.length : Int) := of_decide_eq_true c35b0
                                  obtain ⟨ad240, e240, hx240_0, hx240_1, hx240_2, hx240_3⟩ := at_T31 (Kd.R_reads' (Kd.R_alloc (o := .cells #[.int .i64 (rd_T31 t224 x8_2).f0, .int .i64 (rd_T31 t224 x8_2).f1, .int .i64 (rd_T31 t224 x8_2).f2, .string (rd_T31 t224 x8_2).f3] 31) HO_4.out)).2.2 x8_2 p240 q240
                                  obtain rfl : ad229 = ad240 := by injection e240
                                  replace p240 := eq_true p240
                                  replace q240 := eq_true q240
                                  go_quiet (fail)
                                  try go_wp2
                                  go_roundg kj17
                                  case measure => have := HJ5.out; have := HK2.out; have := HJ17.out; omega
                                  case rel => exact ⟨(t237), (wrap64 (x8_2 + 1)), (by first | rfl | (simp; done) | (simp [*]; done)), (by first | rfl | (simp; done) | (simp [*]; done)), H', ⟨by have := HJ5.out; have := HK2.out; have := HJ17.out; omega⟩, ⟨by (with_reducible repeat (first | apply Kd.R_alloc | apply Kd.R_drewN | apply Kd.R_drew)); exact HO_4.out⟩, ⟨by repeat (first | (with_reducible first | exact HB.out | apply below_alloc | apply pw_below_drewN | apply below_drew1 | refine below_set ?_ GE239.out) | exact HB.out)⟩⟩
                            · rw [if_neg c35] at H
                              exact absurd H (by simp)
                          · rw [if_neg c34] at H
                            exact absurd H (by simp)
                        · rw [if_neg c33] at H
                          have c33b0 : (t238 == 0) = false := beq_eq_false_iff_ne.mpr c33
                          have c33b1 : (t238 != 0) = true := bne_iff_ne.mpr c33
                          obtain rfl := Option.some.inj H
                          go_wp2_with (first | (go_at_call 13; (with_reducible refine (tok_Next.calls kj17 a0 ((rd_T31 t224 x8_2).f1) t233 t234 t235 t236 t237 t238 _ ?side1 A32.out).mono ?_); (case side1 => exact GW.below (by repeat (first | (with_reducible first | exact HB.out | apply below_alloc | apply pw_below_drewN | apply below_drew1) | exact HB.out)) HG.out); rintro e w47 ⟨rfl, hb⟩; have n0_ := Aside0.mk (Kd.R_below (by (with_reducible repeat (first | apply Kd.R_alloc | apply Kd.R_drewN | apply Kd.R_drew)); exact HO_4.out) hb); have n1_ := Aside0.mk (below_step (by repeat (first | (with_reducible first | exact HB.out | apply below_alloc | apply pw_below_drewN | apply below_drew1) | exact HB.out)) hb); clear HO_4; clear HB; have HO_4 := n0_; have HB := n1_; clear n0_ n1_; (try clear hb); (try clear hb2); (try clear hk); (try clear hi)) | ((with_reducible refine gate_dst (N := 10) rfl ?_); (try (refine gate_guard (by rfl) ?_; dsimp only)); refine box_event ?hg (N := 10) ?hd (cs := #[.int .i64 0, .int .i64 0, .int .i64 0, .string (⟨#[]⟩ : ByteArray)]) (t := 31) ?hr ?_; (case hd => rfl); (case hg => rfl); (case hr => first | (go_simp; done) | (go_simp; rfl)); intro gb239 hg w48 hbox hb; have n0_ := Aside0.mk (Kd.R_below (Kd.R_elderB (by (with_reducible repeat (first | apply Kd.R_alloc | apply Kd.R_drewN | apply Kd.R_drew)); exact HO_4.out) gb239 (Nat.le_of_eq hg.symm)) hb); have n1_ := Aside0.mk (below_step (by repeat (first | (with_reducible first | exact HB.out | apply below_alloc | apply pw_below_drewN | apply below_drew1) | exact HB.out)) hb); have n2_ := Aside0.mk (hbox); have n3_ := Aside0.mk ((by rw [hg]; exact (below_size (by repeat (first | (with_reducible first | exact HB.out | apply below_alloc | apply pw_below_drewN | apply below_drew1) | exact HB.out))) : w.heap.size ≤ gb239)); have n4_ := Aside0.mk ((by rw [hg]; exact (below_size (by repeat (first | (with_reducible first | exact HB.out | apply below_alloc | apply pw_below_drewN | apply below_drew1) | exact HB.out))) : w.heap.size ≤ gb239)); clear HO_4; clear HB; have HO_4 := n0_; have HB := n1_; have BK239 := n2_; have GW239 := n3_; have GE239 := n4_; clear n0_ n1_ n2_ n3_ n4_; clear hb hbox hg; have hcz49_0 : w48.cell? ⟨gb239, 0, none⟩ = some (.int .i64 0) := (blk_cell BK239.out 0).trans rfl; have hcz49_1 : w48.cell? ⟨gb239, 1, none⟩ = some (.int .i64 0) := (blk_cell BK239.out 1).trans rfl; have hcz49_2 : w48.cell? ⟨gb239, 2, none⟩ = some (.int .i64 0) := (blk_cell BK239.out 2).trans rfl; have hcz49_3 : w48.cell? ⟨gb239, 3, none⟩ = some (.string (⟨#[]⟩ : ByteArray)) := (blk_cell BK239.out 3).trans rfl; have hfz49_0 := blk_frozen BK239.out 0; have hfz49_1 := blk_frozen BK239.out 1; have hfz49_2 := blk_frozen BK239.out 2; have hfz49_3 := blk_frozen BK239.out 3))
                          repeat (go_quiet (first | (go_at_call 13; (with_reducible refine (tok_Next.calls kj17 a0 ((rd_T31 t224 x8_2).f1) t233 t234 t235 t236 t237 t238 _ ?side1 A32.out).mono ?_); (case side1 => exact GW.below (by repeat (first | (with_reducible first | exact HB.out | apply below_alloc | apply pw_below_drewN | apply below_drew1) | exact HB.out)) HG.out); rintro e w47 ⟨rfl, hb⟩; have n0_ := Aside0.mk (Kd.R_below (by (with_reducible repeat (first | apply Kd.R_alloc | apply Kd.R_drewN | apply Kd.R_drew)); exact HO_4.out) hb); have n1_ := Aside0.mk (below_step (by repeat (first | (with_reducible first | exact HB.out | apply below_alloc | apply pw_below_drewN | apply below_drew1) | exact HB.out)) hb); clear HO_4; clear HB; have HO_4 := n0_; have HB := n1_; clear n0_ n1_; (try clear hb); (try clear hb2); (try clear hk); (try clear hi)) | ((with_reducible refine gate_dst (N := 10) rfl ?_); (try (refine gate_guard (by rfl) ?_; dsimp only)); refine box_event ?hg (N := 10) ?hd (cs := #[.int .i64 0, .int .i64 0, .int .i64 0, .string (⟨#[]⟩ : ByteArray)]) (t := 31) ?hr ?_; (case hd => rfl); (case hg => rfl); (case hr => first | (go_simp; done) | (go_simp; rfl)); intro gb239 hg w48 hbox hb; have n0_ := Aside0.mk (Kd.R_below (Kd.R_elderB (by (with_reducible repeat (first | apply Kd.R_alloc | apply Kd.R_drewN | apply Kd.R_drew)); exact HO_4.out) gb239 (Nat.le_of_eq hg.symm)) hb); have n1_ := Aside0.mk (below_step (by repeat (first | (with_reducible first | exact HB.out | apply below_alloc | apply pw_below_drewN | apply below_drew1) | exact HB.out)) hb); have n2_ := Aside0.mk (hbox); have n3_ := Aside0.mk ((by rw [hg]; exact (below_size (by repeat (first | (with_reducible first | exact HB.out | apply below_alloc | apply pw_below_drewN | apply below_drew1) | exact HB.out))) : w.heap.size ≤ gb239)); have n4_ := Aside0.mk ((by rw [hg]; exact (below_size (by repeat (first | (with_reducible first | exact HB.out | apply below_alloc | apply pw_below_drewN | apply below_drew1) | exact HB.out))) : w.heap.size ≤ gb239)); clear HO_4; clear HB; have HO_4 := n0_; have HB := n1_; have BK239 := n2_; have GW239 := n3_; have GE239 := n4_; clear n0_ n1_ n2_ n3_ n4_; clear hb hbox hg; have hcz49_0 : w48.cell? ⟨gb239, 0, none⟩ = some (.int .i64 0) := (blk_cell BK239.out 0).trans rfl; have hcz49_1 : w48.cell? ⟨gb239, 1, none⟩ = some (.int .i64 0) := (blk_cell BK239.out 1).trans rfl; have hcz49_2 : w48.cell? ⟨gb239, 2, none⟩ = some (.int .i64 0) := (blk_cell BK239.out 2).trans rfl; have hcz49_3 : w48.cell? ⟨gb239, 3, none⟩ = some (.string (⟨#[]⟩ : ByteArray)) := (blk_cell BK239.out 3).trans rfl; have hfz49_0 := blk_frozen BK239.out 0; have hfz49_1 := blk_frozen BK239.out 1; have hfz49_2 := blk_frozen BK239.out 2; have hfz49_3 := blk_frozen BK239.out 3)); try go_wp2_with (first | (go_at_call 13; (with_reducible refine (tok_Next.calls kj17 a0 ((rd_T31 t224 x8_2).f1) t233 t234 t235 t236 t237 t238 _ ?side1 A32.out).mono ?_); (case side1 => exact GW.below (by repeat (first | (with_reducible first | exact HB.out | apply below_alloc | apply pw_below_drewN | apply below_drew1) | exact HB.out)) HG.out); rintro e w47 ⟨rfl, hb⟩; have n0_ := Aside0.mk (Kd.R_below (by (with_reducible repeat (first | apply Kd.R_alloc | apply Kd.R_drewN | apply Kd.R_drew)); exact HO_4.out) hb); have n1_ := Aside0.mk (below_step (by repeat (first | (with_reducible first | exact HB.out | apply below_alloc | apply pw_below_drewN | apply below_drew1) | exact HB.out)) hb); clear HO_4; clear HB; have HO_4 := n0_; have HB := n1_; clear n0_ n1_; (try clear hb); (try clear hb2); (try clear hk); (try clear hi)) | ((with_reducible refine gate_dst (N := 10) rfl ?_); (try (refine gate_guard (by rfl) ?_; dsimp only)); refine box_event ?hg (N := 10) ?hd (cs := #[.int .i64 0, .int .i64 0, .int .i64 0, .string (⟨#[]⟩ : ByteArray)]) (t := 31) ?hr ?_; (case hd => rfl); (case hg => rfl); (case hr => first | (go_simp; done) | (go_simp; rfl)); intro gb239 hg w48 hbox hb; have n0_ := Aside0.mk (Kd.R_below (Kd.R_elderB (by (with_reducible repeat (first | apply Kd.R_alloc | apply Kd.R_drewN | apply Kd.R_drew)); exact HO_4.out) gb239 (Nat.le_of_eq hg.symm)) hb); have n1_ := Aside0.mk (below_step (by repeat (first | (with_reducible first | exact HB.out | apply below_alloc | apply pw_below_drewN | apply below_drew1) | exact HB.out)) hb); have n2_ := Aside0.mk (hbox); have n3_ := Aside0.mk ((by rw [hg]; exact (below_size (by repeat (first | (with_reducible first | exact HB.out | apply below_alloc | apply pw_below_drewN | apply below_drew1) | exact HB.out))) : w.heap.size ≤ gb239)); have n4_ := Aside0.mk ((by rw [hg]; exact (below_size (by repeat (first | (with_reducible first | exact HB.out | apply below_alloc | apply pw_below_drewN | apply below_drew1) | exact HB.out))) : w.heap.size ≤ gb239)); clear HO_4; clear HB; have HO_4 := n0_; have HB := n1_; have BK239 := n2_; have GW239 := n3_; have GE239 := n4_; clear n0_ n1_ n2_ n3_ n4_; clear hb hbox hg; have hcz49_0 : w48.cell? ⟨gb239, 0, none⟩ = some (.int .i64 0) := (blk_cell BK239.out 0).trans rfl; have hcz49_1 : w48.cell? ⟨gb239, 1, none⟩ = some (.int .i64 0) := (blk_cell BK239.out 1).trans rfl; have hcz49_2 : w48.cell? ⟨gb239, 2, none⟩ = some (.int .i64 0) := (blk_cell BK239.out 2).trans rfl; have hcz49_3 : w48.cell? ⟨gb239, 3, none⟩ = some (.string (⟨#[]⟩ : ByteArray)) := (blk_cell BK239.out 3).trans rfl; have hfz49_0 := blk_frozen BK239.out 0; have hfz49_1 := blk_frozen BK239.out 1; have hfz49_2 := blk_frozen BK239.out 2; have hfz49_3 := blk_frozen BK239.out 3)))
                          go_ret
                          exact ⟨by first | rfl | (simp [errW_none, errW_some] <;> rfl) | (simp [*, errW_none, errW_some] <;> rfl), by repeat (first | (with_reducible first | exact HB.out | apply below_alloc | apply pw_below_drewN | apply below_drew1 | refine below_set ?_ GE239.out) | exact HB.out)⟩
                · rw [if_neg c17] at H
                  exact absurd H (by simp)
              · rw [if_neg c16] at H
                have c16b0 : decide (x8_2 < (t224.length : Int)) = false := decide_eq_false c16
                clear c16
                obtain rfl := Option.some.inj H
                obtain ⟨Ao50, co50, eo50⟩ := Kd.R_slice HO_4.out
                subst eo50
                go_wp2
                repeat (go_quiet (fail); try go_wp2)
                go_ret
                exact ⟨by first | rfl | (simp [errW_none, errW_some] <;> rfl) | (simp [*, errW_none, errW_some] <;> rfl), by repeat (first | (with_reducible first | exact HB.out | apply below_alloc | apply pw_below_drewN | apply below_drew1) | exact HB.out)⟩
/-- THE ONE PURE STATEMENT of hornbooklaw04_TokPlaces: yours. -/
def hornbooklaw04_TokPlaces.Pure : Prop := ∀ (a0 : ByteArray), a0.size ≤ 140737488351232 → ∃ k, hornbooklaw04_TokPlaces.f k a0 = some true
theorem hornbooklaw04_TokPlaces.walk (P : hornbooklaw04_TokPlaces.Pure) (a0 : ByteArray) (w : World) (w0 : a0.size ≤ 140737488351232)(hG : GW w) :
    Calls Tryz.prog 4 #[.string a0] w fun e w' => e = .returned (.bool true) ∧ Below w.heap.size w w' := by
  obtain ⟨k, h⟩ := P a0 w0
  refine (hornbooklaw04_TokPlaces.calls k a0 true w hG h).mono ?_
  rintro e w' ⟨rfl, hd⟩
  exact ⟨rfl, hd⟩
end Go.Proofs.YtfdikkdbmlcjiaaGreatDoor.M
end
section
namespace Go.Proofs.YtfdikkdbmlcjiaaGreatDoor.M
open Go Go.RowKit
variable {H : Type} {enc : TypeId × Value → H}
theorem returns_both {a : Assume} {C : Checked} {os : Os} {f : FuncId} {fn : Func} {s : ChangeSpec} {conds : List PathCond} {apart fresh handsOn again : Bool} {X : World → Array Value → Prop}
    (hX : ∀ (w w' : World) (args : Array Value), w.heap = w'.heap → X w args → X w' args)
    (own : ownKnob C.prog.godebug = none) (started : os.Started) (noInit : C.prog.inits.idxOf? f = none) (hfn : C.prog.funcs[f]? = some fn)
    (witness : ∃ (w : World) (tape : Tape) (i : Input), w.os = os ∧ (w.forCall tape i).Shaped C.prog ∧ i.vars = [] ∧ Input.okWide C.prog (w.forCall tape i) .any w.heap.size f i ∧
      ((s.pre enc C.prog fn conds apart (w.forCall tape i).memory i.args ∧ X (w.forCall tape i).memory i.args) ∧ sizedMet enc C.prog fn (OpenSpec.ofChange s) apart (w.forCall tape i).memory i.args) ∧ a.holds C.prog (lone (Frame.enter C.prog f i.args .normal) [] (w.forCall tape i)))
    (contract : ∀ (W : World) (base : Nat) (args : Array Value) (ds gs : List (DataW H)) (before : List MemPlace),
      (∀ (j : Nat) t v, fn.params[j]? = some t → args[j]? = some v → Value.okWide C.prog W .any base t v) →
      DataW.Whole enc C.prog fn.params.toList s.vars apart W args.toList ds gs before →
      conds.all (PathCond.test C.prog ⟨fn.params.toList, ds, s.plain.varTypes C.prog, gs⟩) = true →
      (DataW.weightsEach C.prog (fn.params.toList ++ s.plain.varTypes C.prog) (ds ++ gs)).all (· ≤ reachBytes) = true → X W args → W.ShapedOpen C.prog →
      Calls C.prog f args W fun e W' => ∃ v, e = .returned v ∧ s.post enc C.prog fn apart fresh handsOn again W args v W') :
    ReturnsInHanded a C os f .any (fun w args => (s.pre enc C.prog fn conds apart w args ∧ X w args) ∧ sizedMet enc C.prog fn (OpenSpec.ofChange s) apart w args) (s.post enc C.prog fn apart fresh handsOn again) := by
  refine returnsInHanded_of_calls own started noInit witness ?_
  intro w tape i _ hsh _ hok hpre hholds
  obtain ⟨_, _, _, fn', hfn', _, _, _, _, hval⟩ := hok
  have e : fn' = fn := Option.some.inj (hfn'.symm.trans hfn)
  subst e
  obtain ⟨⟨⟨ds, gs, before, hw, hc⟩, hx⟩, hz⟩ := hpre
  have hw' := DataW.Whole.of_heap (w' := w.forCall tape i) (by rfl) hw
  refine (contract (w.forCall tape i) w.heap.size i.args ds gs before hval hw' hc (hz.weights hw) (hX _ _ _ (by rfl) hx) hsh).mono fun e W' ⟨v, he, hp⟩ => ?_
  subst he
  exact ChangeSpec.post_blind hp
theorem gw_star : "*" ++ "errors.errorString" = "*errors.errorString" := by decide
theorem gw_row (u : TypeId) (h : Tryz.prog.typeName? 3 u = some "*errors.errorString") : u = 146 :=
  typeName_ptr_named (nm := "errors.errorString") (by rw [gw_star]; kernel_rfl) (by kernel_rfl) (by decide) u (by rw [gw_star]; exact h)
/-- Out of a row's 'laid', from the two sentinels on, and the world's shape. -/
theorem GW.of_mets {r1 r2 : List (String × DataW Unit)} {t1 t2 : List UInt8} {W : World}
    (h1 : laidMet Tryz.prog (("strconv.ErrRange", .iface "*errors.errorString" (.ptr (.agg [.lit (.string t1)]))) :: r1) W)
    (h2 : laidMet Tryz.prog (("strconv.ErrSyntax", .iface "*errors.errorString" (.ptr (.agg [.lit (.string t2)]))) :: r2) W)
    {r4 : List (String × DataW Unit)} (h4 : laidMet Tryz.prog (("internal/strconv.uint64pow10", Rows.laid_internal_strconv_uint64pow10) :: r4) W)
    (hsh : W.ShapedOpen Tryz.prog) : GW W := by
  obtain ⟨a0, s0, hv0, -, -, -⟩ := laid_sentinel h1 (g := 0) (ti := 60) (by kernel_rfl) (by kernel_rfl) Tryz.underlying60 gw_row Tryz.underlying146 Tryz.underlying148 rfl rfl Tryz.underlying9 (by kernel_rfl) (by kernel_rfl)
  obtain ⟨a1, s1, hv1, -, -, -⟩ := laid_sentinel h2 (g := 3) (ti := 60) (by kernel_rfl) (by kernel_rfl) Tryz.underlying60 gw_row Tryz.underlying146 Tryz.underlying148 rfl rfl Tryz.underlying9 (by kernel_rfl) (by kernel_rfl)
  have c0 := World.var?_cell (P := Tryz.prog) (g := 0) (by kernel_rfl) hv0 0
  have c1 := World.var?_cell (P := Tryz.prog) (g := 3) (by kernel_rfl) hv1 0
  obtain ⟨m, hm⟩ := cell_of_shapedOpen_int (P := Tryz.prog) (g := 1) (t := 3) (zero := #[.int .i64 0]) hsh (of_decide_eq_true (by kernel_rfl)) (by kernel_rfl) rfl (by kernel_rfl) (by kernel_rfl) Tryz.underlying3
  have e4 : (Rows.laid_internal_strconv_uint64pow10 : DataW Unit) = Lib.tabData .u64 Lib.pow10Tab := by kernel_rfl
  rw [e4] at h4
  have hpow : Lib.TabIs Tryz.prog W "internal/strconv.uint64pow10" .u64 Lib.pow10Tab := Lib.tabIs_of_head (g := 2) (by kernel_rfl) (by kernel_rfl) Tryz.underlying131 Tryz.underlying101 (by kernel_rfl) (by kernel_rfl) h4
  exact {
    range := ⟨a0, by simpa using c0⟩
    syn := ⟨a1, by simpa using c1⟩
    max := ⟨m, hm⟩
    pow := hpow
  }
end Go.Proofs.YtfdikkdbmlcjiaaGreatDoor.M
end
section
namespace Go.Proofs.YtfdikkdbmlcjiaaGreatDoor.M
open Go.RowKit Go.Proofs.YtfdikkdbmlcjiaaGreatDoorW.PrintWords
set_option linter.unusedVariables false
set_option linter.unusedSimpArgs false
def isOct (c : UInt8) : Bool := decide (48 ≤ c.toNat) && decide (c.toNat < 56)
def octs (r : List UInt8) : List UInt8 := (r.take 3).takeWhile isOct
def octFold (acc : Nat) (l : List UInt8) : Nat := l.foldl (fun a c => a * 8 + (c.toNat - 48)) acc
theorem octFold_cons (acc : Nat) (c : UInt8) (l : List UInt8) : octFold acc (c :: l) = octFold (acc * 8 + (c.toNat - 48)) l := by unfold octFold; rw [List.foldl_cons]
theorem octFold_nil (acc : Nat) : octFold acc [] = acc := by unfold octFold; rw [List.foldl_nil]
attribute [irreducible] octFold
set_option maxHeartbeats 1600000 in
theorem number_loop (s : ByteArray) (d : Nat) : ∀ (i acc k : Nat), 3 - i = d → i ≤ 3 → i ≤ s.size → acc < 8 ^ i → d + 1 ≤ k →
    tok_number.l0 k s (acc : Int) (i : Int) = some (((octFold acc (((s.data.toList.drop i).take (3 - i)).takeWhile isOct) : Nat) : Int) % 256, ((i + (((s.data.toList.drop i).take (3 - i)).takeWhile isOct).length : Nat) : Int)) := by
  induction d with
  | zero =>
    intro i acc k hd hi hs ha hk
    obtain ⟨k, rfl⟩ : ∃ k', k = k' + 1 := ⟨k - 1, by omega⟩
    have : i = 3 := by omega
    subst this
    rw [tok_number.l0, if_neg (by omega), show 3 - 3 = 0 from rfl, List.take_zero, List.takeWhile_nil, octFold_nil, List.length_nil, Nat.add_zero]
  | succ d ih =>
    intro i acc k hd hi hs ha hk
    obtain ⟨k, rfl⟩ : ∃ k', k = k' + 1 := ⟨k - 1, by omega⟩
    rw [tok_number.l0, if_pos (by omega)]
    by_cases h1 : i < s.size
    · rw [if_pos (by omega), if_pos (by omega)]
      have hL : i < s.data.toList.length := by rw [← size_list]; exact h1
      have hdr : (s.data.toList.drop i).take (3 - i) = s.data.toList[i] :: (s.data.toList.drop (i + 1)).take (3 - (i + 1)) := by
        rw [List.drop_eq_getElem_cons hL, show 3 - i = (3 - (i + 1)) + 1 by omega, List.take_succ_cons]
      rw [hdr, bt_get s i h1]
      generalize s.data.toList[i] = c
      by_cases h2 : (c.toNat : Int) ≥ 48
      · rw [if_pos h2]
        by_cases h3 : (c.toNat : Int) < 56
        · have ho : isOct c = true := by unfold isOct; rw [Bool.and_eq_true, decide_eq_true_eq, decide_eq_true_eq]; omega
          have hi3 : i = 0 ∨ i = 1 ∨ i = 2 := by omega
          have ha2 : acc * 8 + (c.toNat - 48) < 8 ^ (i + 1) := by rw [Nat.pow_succ]; omega
          have hp : (8 : Nat) ^ i ≤ 64 := by rcases hi3 with rfl | rfl | rfl <;> decide
          rw [if_pos h3, List.takeWhile_cons, if_pos ho, octFold_cons, wrap_small (x := (acc : Int) * 8) (by omega) (by omega), show ((c.toNat : Int) - 48) % 256 = (c.toNat : Int) - 48 by omega,
            wrap_small (x := (acc : Int) * 8 + ((c.toNat : Int) - 48)) (by omega) (by omega), wrap_small (x := (i : Int) + 1) (by omega) (by omega)]
          have := ih (i + 1) (acc * 8 + (c.toNat - 48)) k (by omega) (by omega) (by omega) ha2 (by omega)
          rw [show (acc : Int) * 8 + ((c.toNat : Int) - 48) = ((acc * 8 + (c.toNat - 48) : Nat) : Int) by omega, show (i : Int) + 1 = ((i + 1 : Nat) : Int) by omega, this, List.length_cons]
          congr 3
          omega
        · have ho : isOct c = false := by unfold isOct; rw [Bool.and_eq_false_iff, decide_eq_false_iff_not, decide_eq_false_iff_not]; omega
          rw [if_neg h3, List.takeWhile_cons, if_neg (by rw [ho]; decide), octFold_nil, List.length_nil, Nat.add_zero]
      · have ho : isOct c = false := by unfold isOct; rw [Bool.and_eq_false_iff, decide_eq_false_iff_not, decide_eq_false_iff_not]; omega
        rw [if_neg h2, List.takeWhile_cons, if_neg (by rw [ho]; decide), octFold_nil, List.length_nil, Nat.add_zero]
    · rw [if_neg (by omega)]
      have hdr : s.data.toList.drop i = [] := List.drop_eq_nil_of_le (by rw [← size_list]; omega)
      rw [hdr, List.take_nil, List.takeWhile_nil, octFold_nil, List.length_nil, Nat.add_zero]
theorem number_eq (s : ByteArray) {k : Nat} (hk : 4 ≤ k) : tok_number.f k s = some (((octFold 0 (octs s.data.toList) : Nat) : Int) % 256, ((octs s.data.toList).length : Int)) := by
  unfold tok_number.f octs
  have := number_loop s 3 0 0 k rfl (by omega) (by omega) (by decide) (by omega)
  rw [List.drop_zero, Nat.zero_add] at this
  exact this
def letterOf (c : UInt8) : UInt8 := if c = 110 then 10 else if c = 114 then 13 else if c = 116 then 9 else if c = 98 then 8 else if c = 102 then 12 else c
/-- What a text behind a backslash begins with: its bytes, and how many they take. -/
def escG (r : List UInt8) : List UInt8 × Nat :=
  if 0 < (octs r).length then ([(octFold 0 (octs r) % 256).toUInt8], (octs r).length)
  else match r with
  | [] => ([], 0)
  | c :: t => if [13, 10].isPrefixOf (c :: t) then ([], 2) else if c = 10 ∨ c = 13 then ([], 1) else ([letterOf c], 1)
def idxT (c : UInt8) : Int := if c = 110 then 0 else if c = 114 then 1 else if c = 116 then 2 else if c = 98 then 3 else if c = 102 then 4 else -1
theorem idx_all : ∀ n : Fin 256, strings_IndexByte.f (⟨#[110, 114, 116, 98, 102]⟩ : ByteArray) (n.val : Int) = some (idxT n.val.toUInt8) := by decide +kernel
theorem idx_eq (c : UInt8) : strings_IndexByte.f (⟨#[110, 114, 116, 98, 102]⟩ : ByteArray) (c.toNat : Int) = some (idxT c) := by
  have := idx_all ⟨c.toNat, c.toNat_lt⟩
  rw [show ((⟨c.toNat, c.toNat_lt⟩ : Fin 256).val.toUInt8) = c from UInt8.ofNat_toNat] at this
  exact this
theorem str_one (n : Nat) : strOfNums [((n : Nat) : Int) % 256] = ⟨[(n % 256).toUInt8].toArray⟩ := by
  have : ((n : Nat) : Int) % 256 = ((n % 256 : Nat) : Int) := by omega
  rw [this]
  rfl
theorem letter_eq (c : UInt8) (x : ByteArray) (hx : x = ⟨#[c]⟩) : (if idxT c ≥ 0 then (if 0 ≤ idxT c then (if idxT c ≤ wrap64 (idxT c + 1) then (if wrap64 (idxT c + 1) ≤ 5 then some ((⟨#[10, 13, 9, 8, 12]⟩ : ByteArray).extract (idxT c).toNat (wrap64 (idxT c + 1)).toNat, (1 : Int)) else none) else none) else none) else some (x, 1)) = some (⟨#[letterOf c]⟩, 1) := by
  subst hx
  by_cases h1 : c = 110
  · subst h1
    rw [show idxT 110 = 0 by decide, show letterOf 110 = 10 by decide, show wrap64 (0 + 1) = 1 from wrap_small (by decide) (by decide), if_pos (by decide), if_pos (by decide), if_pos (by decide), if_pos (by decide), ext_mid]
    rfl
  by_cases h2 : c = 114
  · subst h2
    rw [show idxT 114 = 1 by decide, show letterOf 114 = 13 by decide, show wrap64 (1 + 1) = 2 from wrap_small (by decide) (by decide), if_pos (by decide), if_pos (by decide), if_pos (by decide), if_pos (by decide), ext_mid]
    rfl
  by_cases h3 : c = 116
  · subst h3
    rw [show idxT 116 = 2 by decide, show letterOf 116 = 9 by decide, show wrap64 (2 + 1) = 3 from wrap_small (by decide) (by decide), if_pos (by decide), if_pos (by decide), if_pos (by decide), if_pos (by decide), ext_mid]
    rfl
  by_cases h4 : c = 98
  · subst h4
    rw [show idxT 98 = 3 by decide, show letterOf 98 = 8 by decide, show wrap64 (3 + 1) = 4 from wrap_small (by decide) (by decide), if_pos (by decide), if_pos (by decide), if_pos (by decide), if_pos (by decide), ext_mid]
    rfl
  by_cases h5 : c = 102
  · subst h5
    rw [show idxT 102 = 4 by decide, show letterOf 102 = 12 by decide, show wrap64 (4 + 1) = 5 from wrap_small (by decide) (by decide), if_pos (by decide), if_pos (by decide), if_pos (by decide), if_pos (by decide), ext_mid]
    rfl
  have e1 : idxT c = -1 := by unfold idxT; simp only [h1, h2, h3, h4, h5, if_false]
  have e2 : letterOf c = c := by unfold letterOf; simp only [h1, h2, h3, h4, h5, if_false]
  rw [e1, e2, if_neg (by decide)]
theorem escaped_eq (s : ByteArray) {k : Nat} (hk : 4 ≤ k) : tok_escaped.f k s = some (⟨(escG s.data.toList).1.toArray⟩, ((escG s.data.toList).2 : Int)) := by
  unfold tok_escaped.f escG
  rw [number_eq s hk, Option.bind_some]
  dsimp only
  by_cases h0 : 0 < (octs s.data.toList).length
  · rw [if_pos (by omega), if_pos h0, str_one]
  rw [if_neg (by omega), if_neg h0]
  obtain ⟨k, rfl⟩ : ∃ k', k = k' + 1 := ⟨k - 1, by omega⟩
  rw [toList_data]
  rcases hs : s.data.toList with _ | ⟨c, t⟩
  · rw [if_pos rfl]; rfl
  rw [if_neg (by simp), hasPrefix_eq, Option.bind_some]
  have hsz : s.size = t.length + 1 := by rw [size_list, hs]; rfl
  have hbt : bt s 0 = c.toNat := by
    have := bt_get s 0 (by omega)
    rw [show ((0 : Nat) : Int) = 0 from rfl] at this
    rw [this]
    congr 1
    simp [hs]
  have hex : s.extract 0 1 = ⟨#[c]⟩ := by
    rw [ext_mid, hs]
    rfl
  rw [hs, show (⟨#[13, 10]⟩ : ByteArray).data.toList = [13, 10] from rfl]
  dsimp only
  by_cases hp : [13, 10].isPrefixOf (c :: t) = true
  · rw [if_pos hp, if_pos hp]; rfl
  rw [if_neg hp, if_neg hp, if_pos (by omega), hbt]
  by_cases h10 : c = 10
  · subst h10
    rw [if_pos (show (((10 : UInt8).toNat : Nat) : Int) = 10 from rfl), if_pos (show (10 : UInt8) = 10 ∨ (10 : UInt8) = 13 from .inl rfl), tok_escaped.j0, if_pos rfl]; rfl
  have n10 : ¬ ((c.toNat : Int) = 10) := fun e => h10 (UInt8.toNat_inj.1 (by show c.toNat = 10; omega))
  rw [if_neg n10, tok_escaped.j0]
  by_cases h13 : c = 13
  · subst h13
    rw [if_pos (show ((((13 : UInt8).toNat : Nat) : Int) == 13) = true from rfl), if_pos (show (13 : UInt8) = 10 ∨ (13 : UInt8) = 13 from .inr rfl)]; rfl
  have n13 : ¬ (((c.toNat : Int) == 13) = true) := fun e => h13 (UInt8.toNat_inj.1 (by have := beq_iff_eq.1 e; show c.toNat = 13; omega))
  rw [if_neg n13, if_neg (show ¬ (c = 10 ∨ c = 13) from fun e => e.elim h10 h13), if_pos (show (0 : Int) < (s.size : Int) by omega), hbt, idx_eq, Option.bind_some, if_pos (show (0 : Nat) ≤ 1 by decide), if_pos (show (1 : Int) ≤ (s.size : Int) by omega), letter_eq c _ hex]
  rfl
end Go.Proofs.YtfdikkdbmlcjiaaGreatDoor.M
end
section
namespace Go.Proofs.YtfdikkdbmlcjiaaGreatDoor.M
open Go.RowKit Go.Proofs.YtfdikkdbmlcjiaaGreatDoorW.PrintWords
set_option linter.unusedVariables false
set_option linter.unusedSimpArgs false
/-- How many bytes a new line takes that a text begins with, if it is one that begins with a carriage return. -/
def lineG (r : List UInt8) : Nat := if [13, 10].isPrefixOf r then 2 else if [13].isPrefixOf r then 1 else 0
theorem line_eq (s : ByteArray) : tok_line.f s = some (lineG s.data.toList : Int) := by
  unfold tok_line.f lineG
  rw [hasPrefix_eq, hasPrefix_eq, Option.bind_some, show (⟨#[13, 10]⟩ : ByteArray).data.toList = [13, 10] from rfl, show (⟨#[13]⟩ : ByteArray).data.toList = [13] from rfl]
  by_cases h1 : [13, 10].isPrefixOf s.data.toList = true
  · rw [if_pos h1, if_pos h1]; rfl
  rw [if_neg h1, if_neg h1, Option.bind_some]
  by_cases h2 : [13].isPrefixOf s.data.toList = true
  · rw [if_pos h2, if_pos h2]; rfl
  · rw [if_neg h2, if_neg h2]; rfl
def deepG (c : UInt8) (deep : Nat) : Nat := if c = 41 then deep - 1 else if c = 40 then deep + 1 else deep
/-- A Str behind its first bracket: the error, its bytes, and what is left. -/
def strG : Nat → Nat → List UInt8 → List UInt8 → Int × List UInt8 × List UInt8
  | 0, _, _, _ => (2, [], [])
  | _ + 1, _, _, [] => (2, [], [])
  | n + 1, deep, out, c :: t =>
    if c = 92 then (if (escG t).2 = 0 then (2, [], []) else strG n deep (out ++ (escG t).1) (t.drop (escG t).2))
    else if c = 41 ∧ deep = 1 then (0, out, t)
    else if c = 40 ∧ deep = 32 then (5, [], c :: t)
    else if 0 < lineG (c :: t) then strG n (deepG c deep) (out ++ [10]) ((c :: t).drop (lineG (c :: t)))
    else strG n (deepG c deep) (out ++ [c]) t
theorem octs_le (r : List UInt8) : (octs r).length ≤ 3 ∧ (octs r).length ≤ r.length := by
  unfold octs
  have h1 := (List.takeWhile_sublist (p := isOct) (l := r.take 3)).length_le
  rw [List.length_take] at h1
  omega
theorem escG_le (r : List UInt8) : (escG r).2 ≤ r.length ∧ (escG r).1.length ≤ 1 := by
  unfold escG
  have h := octs_le r
  split
  · exact ⟨h.2, by simp⟩
  · split
    · simp
    · rename_i c t _ _
      split
      · rename_i hp
        have := (List.isPrefixOf_iff_prefix.1 hp).length_le
        exact ⟨this, by simp⟩
      · split <;> simp
theorem lineG_le (r : List UInt8) : lineG r ≤ r.length ∧ lineG r ≤ 2 := by
  unfold lineG
  split
  · rename_i hp
    have := (List.isPrefixOf_iff_prefix.1 hp).length_le
    exact ⟨this, by omega⟩
  · split
    · rename_i hp
      have := (List.isPrefixOf_iff_prefix.1 hp).length_le
      exact ⟨this, by omega⟩
    · exact ⟨by omega, by omega⟩
theorem from_eq (a0 : ByteArray) (i : Nat) (hi : i ≤ a0.size) : tok_source_from.f a0 (i : Int) = some ⟨(a0.data.toList.drop i).toArray⟩ := by
  have hmn : mn (i : Int) (a0.size : Int) = (i : Int) := by unfold mn; split <;> omega
  unfold tok_source_from.f
  rw [hmn, if_pos (by omega), if_pos (by omega), Int.toNat_natCast, ext_from]
def strAns (a0 : ByteArray) (a1 : Int) (x : Int × List UInt8 × List UInt8) : TokR :=
  if x.1 = 0 then (5, a1, 0, ⟨x.2.1.toArray⟩, ((a0.size - x.2.2.length : Nat) : Int), 0) else (0, 0, 0, ⟨#[]⟩, ((a0.size - x.2.2.length : Nat) : Int), x.1)
set_option maxHeartbeats 1600000 in
theorem strung_loop (a0 : ByteArray) (a1 : Int) (hs : a0.size ≤ 140737488351000) (K : Nat) (hK : 4 ≤ K) : ∀ (n i deep k : Nat) (out : List UInt8), i ≤ a0.size → a0.size - i < n → n ≤ k → 1 ≤ deep → deep ≤ 32 → out.length ≤ i →
    tok_source_strung.g K a0 a1 k out (deep : Int) (i : Int) = some (strAns a0 a1 (strG n deep out (a0.data.toList.drop i)))
  | 0, i, deep, k, out => fun _ h => by omega
  | n + 1, i, deep, k, out => by
    intro hi hn hk hd1 hd2 ho
    obtain ⟨k, rfl⟩ : ∃ k', k = k' + 1 := ⟨k - 1, by omega⟩
    have ih := strung_loop a0 a1 hs K hK n
    rw [tok_source_strung.g, if_pos ⟨by omega, by omega, by omega, by omega, by omega, by omega⟩, from_eq a0 i hi, Option.bind_some]
    have hdl : (a0.data.toList.drop i).length = a0.size - i := by rw [List.length_drop, ← size_list]
    have hdd : ∀ m, (a0.data.toList.drop i).drop m = a0.data.toList.drop (i + m) := fun m => by rw [List.drop_drop]
    generalize hr : a0.data.toList.drop i = r at hdl hdd
    rcases r with _ | ⟨c, t⟩
    · rw [if_pos (show (⟨([] : List UInt8).toArray⟩ : ByteArray).size = 0 from rfl), strG]
      rfl
    have hsz : (⟨(c :: t).toArray⟩ : ByteArray).size = t.length + 1 := by rw [size_list, ba_list]; rfl
    have hbt : bt (⟨(c :: t).toArray⟩ : ByteArray) 0 = (c.toNat : Int) := by
      have := bt_get (⟨(c :: t).toArray⟩ : ByteArray) 0 (by omega)
      rw [show ((0 : Nat) : Int) = 0 from rfl] at this
      rw [this]
      simp
    have htl : (⟨(c :: t).toArray⟩ : ByteArray).extract 1 (⟨(c :: t).toArray⟩ : ByteArray).size = ⟨t.toArray⟩ := by
      have := ext_from (⟨(c :: t).toArray⟩ : ByteArray) 1
      rw [this, ba_list]
      rfl
    rw [List.length_cons] at hdl
    rw [if_neg (by omega), hbt, htl, strG]
    by_cases h92 : c = 92
    · subst h92
      rw [if_pos (show (((92 : UInt8).toNat : Nat) : Int) = 92 from rfl), if_pos (show (92 : UInt8) = 92 from rfl), escaped_eq _ hK, Option.bind_some, ba_list]
      dsimp only
      have he := escG_le t
      by_cases h0 : (escG t).2 = 0
      · rw [if_pos (by omega), if_pos h0]
        rfl
      rw [if_neg (by omega), if_neg h0, if_pos ⟨by omega, by omega, by rw [size_list, ba_list]; omega⟩]
      have := ih (i + 1 + (escG t).2) deep k (out ++ (escG t).1) (by omega) (by omega) (by omega) hd1 hd2 (by rw [List.length_append]; omega)
      rw [show (i : Int) + (1 + ((escG t).2 : Int)) = ((i + 1 + (escG t).2 : Nat) : Int) by omega, this]
      have hx := hdd (1 + (escG t).2)
      rw [show i + (1 + (escG t).2) = i + 1 + (escG t).2 by omega, ← List.drop_drop, List.drop_one, List.tail_cons] at hx
      rw [hx]
    have n92 : ¬ ((c.toNat : Int) = 92) := fun e => h92 (UInt8.toNat_inj.1 (by show c.toNat = 92; omega))
    rw [if_neg n92, if_neg h92]
    have cast : ∀ x : UInt8, ((c.toNat : Int) = (x.toNat : Int)) ↔ c = x := fun x => ⟨fun e => UInt8.toNat_inj.1 (by omega), fun e => by rw [e]⟩
    have c41 := cast 41
    have c40 := cast 40
    rw [show (((41 : UInt8).toNat : Nat) : Int) = 41 from rfl] at c41
    rw [show (((40 : UInt8).toNat : Nat) : Int) = 40 from rfl] at c40
    by_cases h41 : c = 41 ∧ deep = 1
    · rw [if_pos ⟨c41.2 h41.1, by omega⟩, if_pos h41]
      show _ = some (strAns a0 a1 ((0 : Int), out, t))
      unfold strAns
      rw [if_pos rfl]
      dsimp only
      rw [show a0.size - t.length = i + 1 by omega]
      rfl
    rw [if_neg (fun e => h41 ⟨c41.1 e.1, by have := e.2; omega⟩), if_neg h41]
    by_cases h40 : c = 40 ∧ deep = 32
    · rw [if_pos ⟨c40.2 h40.1, by omega⟩, if_pos h40]
      show _ = some (strAns a0 a1 ((5 : Int), [], c :: t))
      unfold strAns
      rw [if_neg (show ¬ (5 : Int) = 0 by decide)]
      dsimp only
      rw [List.length_cons, show a0.size - (t.length + 1) = i by omega]
    rw [if_neg (fun e => h40 ⟨c40.1 e.1, by have := e.2; omega⟩), if_neg h40]
    have hdp : deepOf (c.toNat : Int) (deep : Int) = ((deepG c deep : Nat) : Int) ∧ 1 ≤ deepG c deep ∧ deepG c deep ≤ 32 := by
      unfold deepOf deepG
      by_cases e1 : c = 41
      · have : deep ≠ 1 := fun e => h41 ⟨e1, e⟩
        rw [if_pos (c41.2 e1), if_pos e1]
        omega
      rw [if_neg (fun e => e1 (c41.1 e)), if_neg e1]
      by_cases e2 : c = 40
      · have : deep ≠ 32 := fun e => h40 ⟨e2, e⟩
        rw [if_pos (c40.2 e2), if_pos e2]
        omega
      · rw [if_neg (fun e => e2 (c40.1 e)), if_neg e2]
        omega
    have hl := lineG_le (c :: t)
    rw [List.length_cons] at hl
    rw [line_eq, Option.bind_some, ba_list, hdp.1]
    by_cases h0 : 0 < lineG (c :: t)
    · rw [if_pos ⟨by omega, by omega⟩, if_pos h0]
      have := ih (i + lineG (c :: t)) (deepG c deep) k (out ++ [10]) (by omega) (by omega) (by omega) hdp.2.1 hdp.2.2 (by rw [List.length_append, List.length_singleton]; omega)
      rw [show (i : Int) + (lineG (c :: t) : Int) = ((i + lineG (c :: t) : Nat) : Int) by omega, this, hdd]
    · rw [if_neg (fun e => h0 (by have := e.1; omega)), if_pos (by omega), if_neg h0, show (c.toNat : Int).toNat.toUInt8 = c from by rw [Int.toNat_natCast]; exact UInt8.ofNat_toNat]
      have := ih (i + 1) (deepG c deep) k (out ++ [c]) (by omega) (by omega) (by omega) hdp.2.1 hdp.2.2 (by rw [List.length_append, List.length_singleton]; omega)
      rw [show (i : Int) + 1 = ((i + 1 : Nat) : Int) by omega, this, ← hdd 1]
      rfl
end Go.Proofs.YtfdikkdbmlcjiaaGreatDoor.M
end
section
namespace Go.Proofs.YtfdikkdbmlcjiaaGreatDoor.M
open Go.RowKit Go.Proofs.YtfdikkdbmlcjiaaGreatDoorW.PrintWords
set_option linter.unusedVariables false
set_option linter.unusedSimpArgs false
/-- A digit that waits for its second one stands as a byte already. -/
def rowOf (acc : List Int) : Option Int → List Int
  | none => acc
  | some h => acc ++ [h * 16]
def unhG : List Int → Option Int → List UInt8 → Int × List Int × List UInt8
  | acc, hi, [] => (0, rowOf acc hi, [])
  | acc, hi, c :: t => match hexVal c.toNat with
    | some v => (match hi with | none => unhG acc (some v) t | some h => unhG (acc ++ [h * 16 + v]) none t)
    | none => if isWhite c.toNat = true then unhG acc hi t else (1, [], c :: t)
def unhAns (s : ByteArray) (x : Int × List Int × List UInt8) : List Int × Int × Int := if x.1 = 0 then (x.2.1, (s.size : Int), 0) else ([], ((s.size - x.2.2.length : Nat) : Int), 1)
theorem hexVal_lt {c v : Int} (h : hexVal c = some v) : 0 ≤ v ∧ v < 16 := by
  unfold hexVal at h
  split at h
  · injection h; omega
  · split at h
    · injection h; omega
    · split at h
      · injection h; omega
      · cases h
theorem or_all : ∀ h v : Fin 16, Go.bits .or .u8 ((h.val : Int) * 16) (v.val : Int) = (h.val : Int) * 16 + v.val := by decide +kernel
theorem or_eq (h v : Int) (h0 : 0 ≤ h) (h1 : h < 16) (v0 : 0 ≤ v) (v1 : v < 16) : Go.bits .or .u8 (h * 16) v = h * 16 + v := by
  have := or_all ⟨h.toNat, by omega⟩ ⟨v.toNat, by omega⟩
  dsimp only at this
  rw [Int.toNat_of_nonneg h0, Int.toNat_of_nonneg v0] at this
  exact this
theorem rowOf_length (acc : List Int) (hi : Option Int) : (rowOf acc hi).length ≤ acc.length + 1 := by
  unfold rowOf; split <;> simp
set_option maxHeartbeats 1600000 in
theorem unhex_loop (s : ByteArray) (hs : s.size < 140737488355000) (d : Nat) : ∀ (i k : Nat) (acc : List Int) (hi : Option Int), s.size - i = d → i ≤ s.size → 2 * d + 4 ≤ k → acc.length + 1 ≤ i + 1 → (∀ h, hi = some h → 0 ≤ h ∧ h < 16) →
    hex_UnHex.l0 k s (rowOf acc hi) hi.isNone (s.size : Int) (i : Int) = some (unhAns s (unhG acc hi (s.data.toList.drop i))) := by
  induction d with
  | zero =>
    intro i k acc hi hd h0 hk ha hh
    obtain ⟨k, rfl⟩ : ∃ k', k = k' + 1 := ⟨k - 1, by omega⟩
    rw [hex_UnHex.l0, if_neg (by omega), List.drop_eq_nil_of_le (by rw [← size_list]; omega)]
    cases hi <;> rfl
  | succ d ih =>
    intro i k acc hi hd h0 hk ha hh
    obtain ⟨k, rfl⟩ : ∃ k', k = k' + 2 := ⟨k - 2, by omega⟩
    have hlt : i < s.size := by omega
    have hL : i < s.data.toList.length := by rw [← size_list]; exact hlt
    have hdr := List.drop_eq_getElem_cons hL
    have hrem : (s.data.toList.drop i).length = s.size - i := by rw [List.length_drop, ← size_list]
    rw [hex_UnHex.l0, if_pos (by omega), if_pos (by omega), if_pos (by omega), bt_get s i hlt]
    rw [hdr] at hrem ⊢
    generalize s.data.toList[i] = c at hrem ⊢
    have hc := c.toNat_lt
    have hnx : wrap64 ((i : Int) + 1) = ((i + 1 : Nat) : Int) := wrap_small (by omega) (by omega)
    rw [wrap_small (x := (c.toNat : Int)) (by omega) (by omega), digit_eq (by omega) _ (by omega) (by omega), Option.bind_some]
    dsimp only
    rw [unhG]
    have ih2 := ih (i + 1) k
    cases hv : hexVal c.toNat with
    | some v =>
      have hvb := hexVal_lt hv
      rw [if_pos (show (some v).isSome = true from rfl), hex_UnHex.j1, if_neg (show ¬ (false = true) by decide), if_pos (show (some v).isSome = true from rfl), hnx]
      dsimp only [Option.getD_some]
      cases hi with
      | none =>
        rw [if_pos (show (none : Option Int).isNone = true from rfl), if_pos (by have := rowOf_length acc none; omega), wrap_small (x := v * 16) (by omega) (by omega), show v * 16 % 256 = v * 16 by omega]
        have := ih2 acc (some v) (by omega) (by omega) (by omega) (by omega) (fun h e => by cases e; exact hvb)
        exact this
      | some h =>
        have hb := hh h rfl
        have hlen : (rowOf acc (some h)).length = acc.length + 1 := by simp [rowOf]
        rw [if_neg (show ¬ ((some h).isNone = true) by simp), hlen, wrap_small (x := ((acc.length + 1 : Nat) : Int) - 1) (by omega) (by omega), if_pos (by omega), if_pos (by omega), show (((acc.length + 1 : Nat) : Int) - 1) = (acc.length : Int) by omega]
        have hrd : rd (rowOf acc (some h)) (acc.length : Int) = h * 16 := by
          unfold rd rowOf
          rw [Int.toNat_natCast]
          simp
        have hset : (rowOf acc (some h)).set (acc.length : Int).toNat (h * 16 + v) = acc ++ [h * 16 + v] := by
          rw [Int.toNat_natCast]
          simp [rowOf]
        rw [hrd, show v % 256 = v by omega, or_eq h v hb.1 hb.2 hvb.1 hvb.2, hset]
        have := ih2 (acc ++ [h * 16 + v]) none (by omega) (by omega) (by omega) (by rw [List.length_append, List.length_singleton]; omega) (fun h e => by cases e)
        exact this
    | none =>
      rw [if_neg (show ¬ ((none : Option Int).isSome = true) by simp)]
      rw [show hex_White.f (c.toNat : Int) = some (isWhite c.toNat) from rfl, Option.bind_some, hex_UnHex.j1]
      by_cases hw : isWhite c.toNat = true
      · rw [if_pos hw, if_pos hw, hnx]
        exact ih2 acc hi (by omega) (by omega) (by omega) (by omega) hh
      · rw [if_neg hw, if_neg hw, if_neg (show ¬ ((none : Option Int).isSome = true) by simp)]
        unfold unhAns
        rw [if_neg (show ¬ (1 : Int) = 0 by decide)]
        dsimp only
        rw [hrem, show s.size - (s.size - i) = i by omega]
theorem unhex_eq (s : ByteArray) (hs : s.size < 140737488355000) {k : Nat} (hk : 2 * s.size + 4 ≤ k) : hex_UnHex.f k s = some (unhAns s (unhG [] none s.data.toList)) := by
  have := unhex_loop s hs s.size 0 k [] none (by omega) (by omega) hk (by simp) (fun h e => by cases e)
  rw [List.drop_zero] at this
  exact this
end Go.Proofs.YtfdikkdbmlcjiaaGreatDoor.M
end
section
namespace Go.Proofs.YtfdikkdbmlcjiaaGreatDoor.M
open Go.RowKit Go.Proofs.YtfdikkdbmlcjiaaGreatDoorW.PrintWords
set_option linter.unusedVariables false
def isRegB (c : UInt8) : Bool := clsOf c.toNat == 0
def wordAt (l : List UInt8) (i : Nat) : List UInt8 := (l.drop i).takeWhile isRegB
def placeN (s : ByteArray) (a : Int) : Nat := (max 0 (min a s.size)).toNat
theorem placeN_le (s : ByteArray) (a : Int) : placeN s a ≤ s.size := by unfold placeN; omega
theorem place_eq (s : ByteArray) (a : Int) : lex_place.f s a = some (placeN s a : Int) := by
  unfold lex_place.f placeN
  congr 1
  unfold mx mn
  repeat' split
  all_goals omega
theorem wordAt_cons (l : List UInt8) (i : Nat) (h : i < l.length) (hr : isRegB l[i] = true) : wordAt l i = l[i] :: wordAt l (i + 1) := by
  unfold wordAt
  rw [List.drop_eq_getElem_cons h, List.takeWhile_cons, if_pos hr]
theorem wordAt_stop (l : List UInt8) (i : Nat) (h : i < l.length) (hr : isRegB l[i] = false) : wordAt l i = [] := by
  unfold wordAt
  rw [List.drop_eq_getElem_cons h, List.takeWhile_cons, if_neg (by simp [hr])]
theorem wordAt_end (l : List UInt8) (i : Nat) (h : l.length ≤ i) : wordAt l i = [] := by
  unfold wordAt
  rw [List.drop_of_length_le h]; rfl
theorem wordAt_le (l : List UInt8) (i : Nat) (h : i ≤ l.length) : i + (wordAt l i).length ≤ l.length := by
  have : (wordAt l i).length ≤ (l.drop i).length := by unfold wordAt; exact (List.takeWhile_prefix _).length_le
  rw [List.length_drop] at this; omega
theorem cls_get (s : ByteArray) (i : Nat) (h : i < s.size) {k : Nat} (hk : 2 ≤ k) : lex_Class.f k (wrap64 (bt s i)) = some (clsOf (s.data.toList[i]'(by simpa using h)).toNat) := by
  have hr := bt_range s i
  rw [wrap_small hr.1 (by omega), bt_get s i h, class_eq hk]
theorem word_loop (s : ByteArray) (hs : s.size < 4611686018427387904) (a : Nat) (d : Nat) : ∀ (i k : Nat), s.size - i = d → i ≤ s.size → a ≤ i → d + 4 ≤ k →
    lex_Word.l0 k s a i = some (s.extract a (i + (wordAt s.data.toList i).length), ((i + (wordAt s.data.toList i).length : Nat) : Int)) := by
  induction d with
  | zero =>
    intro i k hd hi ha hk
    obtain ⟨k, rfl⟩ : ∃ m, k = m + 1 := ⟨k - 1, by omega⟩
    simp only [lex_Word.l0]
    rw [wordAt_end _ _ (by rw [← size_list]; omega), if_neg (by omega), if_pos (by omega), if_pos (by omega), if_pos (by omega)]
    simp
  | succ d ih =>
    intro i k hd hi ha hk
    obtain ⟨k, rfl⟩ : ∃ m, k = m + 1 := ⟨k - 1, by omega⟩
    have hlt : i < s.size := by omega
    have hl : i < s.data.toList.length := by rw [← size_list]; exact hlt
    simp only [lex_Word.l0]
    rw [if_pos (by omega), if_pos (by omega), cls_get s i hlt (by omega)]
    simp only [Option.bind_some]
    by_cases hr : isRegB s.data.toList[i] = true
    · have h0 : clsOf (s.data.toList[i]).toNat = 0 := by simpa [isRegB] using hr
      rw [if_pos h0, wrap_small (by omega) (by omega)]
      have := ih (i + 1) k (by omega) (by omega) (by omega) (by omega)
      rw [show ((i : Int) + 1) = ((i + 1 : Nat) : Int) by omega, this, wordAt_cons _ _ hl hr]
      simp only [List.length_cons]
      rw [show i + 1 + (wordAt s.data.toList (i + 1)).length = i + ((wordAt s.data.toList (i + 1)).length + 1) by omega]
    · have h0 : ¬ clsOf (s.data.toList[i]).toNat = 0 := by simpa [isRegB] using hr
      have hr' : isRegB s.data.toList[i] = false := by simpa using hr
      rw [if_neg h0, wordAt_stop _ _ hl hr', if_pos (by omega), if_pos (by omega), if_pos (by omega)]
      simp
/-- What Word tells. -/
theorem word_eq (s : ByteArray) (hs : s.size < 4611686018427387904) (a : Int) {k : Nat} (hk : s.size + 4 ≤ k) :
    lex_Word.f k s a = some (⟨(wordAt s.data.toList (placeN s a)).toArray⟩, ((placeN s a + (wordAt s.data.toList (placeN s a)).length : Nat) : Int)) := by
  unfold lex_Word.f
  rw [place_eq]
  simp only [Option.bind_some]
  rw [word_loop s hs (placeN s a) _ (placeN s a) k rfl (placeN_le s a) (Nat.le_refl _) (by omega), ext_mid]
  have e : (s.data.toList.drop (placeN s a)).take (placeN s a + (wordAt s.data.toList (placeN s a)).length - placeN s a) = wordAt s.data.toList (placeN s a) := by
    rw [Nat.add_sub_cancel_left]
    unfold wordAt
    exact (List.prefix_iff_eq_take.1 (List.takeWhile_prefix _)).symm
  rw [e]
end Go.Proofs.YtfdikkdbmlcjiaaGreatDoor.M
end
section
namespace Go.Proofs.YtfdikkdbmlcjiaaGreatDoor.M
open Go.RowKit Go.Proofs.YtfdikkdbmlcjiaaGreatDoorW.PrintWords
set_option linter.unusedVariables false
def isNL (c : UInt8) : Bool := c == 10 || c == 13
/-- How many bytes are skipped; the first argument: in a remark. -/
def skipG : Bool → List UInt8 → Nat
  | _, [] => 0
  | true, c :: r => 1 + skipG (!isNL c) r
  | false, c :: r => if c == 37 then 1 + skipG true r else if clsOf c.toNat == 1 then 1 + skipG false r else 0
def nlAt (r : List UInt8) : Nat := (r.takeWhile (fun c => !isNL c)).length
theorem skipG_le : ∀ (l : List UInt8) (b : Bool), skipG b l ≤ l.length
  | [], b => by cases b <;> simp [skipG]
  | c :: r, true => by have := skipG_le r (!isNL c); simp only [skipG, List.length_cons]; omega
  | c :: r, false => by
    have h1 := skipG_le r true
    have h2 := skipG_le r false
    simp only [skipG, List.length_cons]
    split
    · omega
    · split <;> omega
theorem skipG_stable : ∀ (l : List UInt8) (b : Bool), skipG false (l.drop (skipG b l)) = 0
  | [], b => by cases b <;> simp [skipG]
  | c :: r, true => by
    have := skipG_stable r (!isNL c)
    simp only [skipG]
    rw [Nat.add_comm, List.drop_succ_cons]; exact this
  | c :: r, false => by
    have h1 := skipG_stable r true
    have h2 := skipG_stable r false
    rw [skipG]
    split
    · rw [Nat.add_comm, List.drop_succ_cons]; exact h1
    · split
      · rw [Nat.add_comm, List.drop_succ_cons]; exact h2
      · rename_i n1 n2
        rw [List.drop_zero, skipG, if_neg n1, if_neg n2]
theorem skipG_zero (c : UInt8) (r : List UInt8) (h : skipG false (c :: r) = 0) : (c == 37) = false ∧ (clsOf c.toNat == 1) = false := by
  rw [skipG] at h
  split at h
  · omega
  · split at h
    · omega
    · rename_i n1 n2
      exact ⟨by simpa using n1, by simpa using n2⟩
theorem skipG_remark : ∀ r : List UInt8, skipG true r = if nlAt r < r.length then nlAt r + 1 + skipG false (r.drop (nlAt r + 1)) else r.length
  | [] => by simp [skipG, nlAt]
  | c :: r => by
    have ih := skipG_remark r
    simp only [skipG]
    cases hc : isNL c with
    | true =>
      have e : nlAt (c :: r) = 0 := by simp [nlAt, hc]
      rw [e, if_pos (by simp)]
      simp
    | false =>
      have e : nlAt (c :: r) = nlAt r + 1 := by simp [nlAt, hc]
      rw [e, Bool.not_false, ih]
      simp only [List.length_cons, List.drop_succ_cons]
      by_cases hl : nlAt r < r.length
      · rw [if_pos hl, if_pos (by omega)]; omega
      · rw [if_neg hl, if_neg (by omega)]; omega
/-- Where the remark ends, as the program finds it. -/
def endOf (r : List UInt8) : Int := if 0 ≤ Lib.indexByte r 13 ∧ (Lib.indexByte r 10 < 0 ∨ Lib.indexByte r 13 < Lib.indexByte r 10) then Lib.indexByte r 13 else Lib.indexByte r 10
theorem indexByte_cons (c : UInt8) (r : List UInt8) (x : UInt8) : Lib.indexByte (c :: r) x = if c = x then 0 else if Lib.indexByte r x = -1 then -1 else Lib.indexByte r x + 1 := by
  simp [Lib.indexByte]
theorem endOf_eq : ∀ r : List UInt8, endOf r = if nlAt r < r.length then (nlAt r : Int) else -1
  | [] => by simp [endOf, nlAt, Lib.indexByte]
  | c :: r => by
    have ih := endOf_eq r
    have ha := Lib.indexByte_ge r 10
    have hb := Lib.indexByte_ge r 13
    have ea := indexByte_cons c r 10
    have eb := indexByte_cons c r 13
    unfold endOf at ih ⊢
    generalize Lib.indexByte (c :: r) 10 = A at ea ⊢
    generalize Lib.indexByte (c :: r) 13 = B at eb ⊢
    generalize Lib.indexByte r 10 = a at ea ih ha
    generalize Lib.indexByte r 13 = b at eb ih hb
    by_cases h10 : c = 10
    · subst h10
      have e : nlAt (10 :: r) = 0 := by simp [nlAt, isNL]
      rw [if_pos rfl] at ea
      rw [if_neg (by decide)] at eb
      have hr : (if nlAt (10 :: r) < (10 :: r).length then ((nlAt (10 :: r) : Nat) : Int) else -1) = 0 := by rw [e]; simp
      rw [hr]
      split at eb <;> (split <;> omega)
    · by_cases h13 : c = 13
      · subst h13
        have e : nlAt (13 :: r) = 0 := by simp [nlAt, isNL]
        rw [if_pos rfl] at eb
        rw [if_neg (by decide)] at ea
        have hr : (if nlAt (13 :: r) < (13 :: r).length then ((nlAt (13 :: r) : Nat) : Int) else -1) = 0 := by rw [e]; simp
        rw [hr]
        split at ea <;> (split <;> omega)
      · have e : nlAt (c :: r) = nlAt r + 1 := by simp [nlAt, isNL, h10, h13]
        rw [if_neg h10] at ea
        rw [if_neg h13] at eb
        by_cases hn : nlAt r < r.length
        · rw [if_pos hn] at ih
          have hr : (if nlAt (c :: r) < (c :: r).length then ((nlAt (c :: r) : Nat) : Int) else -1) = ((nlAt r + 1 : Nat) : Int) := by rw [e, List.length_cons, if_pos (by omega)]
          rw [hr]
          split at ih <;> split at ea <;> split at eb <;> (split <;> omega)
        · rw [if_neg hn] at ih
          have hr : (if nlAt (c :: r) < (c :: r).length then ((nlAt (c :: r) : Nat) : Int) else -1) = -1 := by rw [e, List.length_cons, if_neg (by omega)]
          rw [hr]
          split at ih <;> split at ea <;> split at eb <;> (split <;> omega)
theorem skip_loop (s : ByteArray) (hs : s.size < 4611686018427387904) (d : Nat) : ∀ (i k : Nat), s.size - i ≤ d → i ≤ s.size → 2 * d + 4 ≤ k →
    lex_Skip.l0 k s i = some ((i + skipG false (s.data.toList.drop i) : Nat) : Int) := by
  induction d with
  | zero =>
    intro i k hd hi hk
    obtain ⟨k, rfl⟩ : ∃ m, k = m + 1 := ⟨k - 1, by omega⟩
    simp only [lex_Skip.l0]
    rw [if_neg (by omega), List.drop_of_length_le (by rw [← size_list]; omega)]
    simp [skipG]
  | succ d ih =>
    intro i k hd hi hk
    obtain ⟨k, rfl⟩ : ∃ m, k = m + 1 := ⟨k - 1, by omega⟩
    by_cases hlt : i < s.size
    · have hl : i < s.data.toList.length := by rw [← size_list]; exact hlt
      simp only [lex_Skip.l0]
      rw [if_pos (by omega), if_pos (by omega), bt_get s i hlt, List.drop_eq_getElem_cons hl]
      by_cases hc : (s.data.toList[i].toNat : Int) = 37
      · have hc' : s.data.toList[i] = 37 := UInt8.toNat_inj.1 (show s.data.toList[i].toNat = (37 : UInt8).toNat by have : (37 : UInt8).toNat = 37 := rfl; omega)
        rw [if_pos hc, if_pos (by omega)]
        obtain ⟨k, rfl⟩ : ∃ m, k = m + 1 := ⟨k - 1, by omega⟩
        have hx : s.extract (i : Int).toNat s.size = ⟨(s.data.toList.drop i).toArray⟩ := by rw [Int.toNat_natCast, ext_from]
        rw [hx]
        simp only [strings_IndexByte.f, Option.bind_some, show (Int.toNat 13).toUInt8 = 13 from rfl, show (Int.toNat 10).toUInt8 = 10 from rfl]
        have hb := Lib.indexByte_ge (s.data.toList.drop i) 13
        have ha := Lib.indexByte_ge (s.data.toList.drop i) 10
        have he := endOf_eq (s.data.toList.drop i)
        have hlen : (s.data.toList.drop i).length = s.size - i := by rw [List.length_drop, ← size_list]
        have hnl : nlAt (s.data.toList.drop i) ≤ (s.data.toList.drop i).length := by unfold nlAt; exact (List.takeWhile_prefix _).length_le
        have hsk : skipG false (s.data.toList[i] :: s.data.toList.drop (i + 1)) = skipG true (s.data.toList.drop i) := by
          rw [List.drop_eq_getElem_cons hl, hc']; simp [skipG, isNL]
        rw [hsk, skipG_remark]
        have key : lex_Skip.j1 (k + 1) s i (Lib.indexByte (s.data.toList.drop i) 10) (Lib.indexByte (s.data.toList.drop i) 13) (decide (0 ≤ Lib.indexByte (s.data.toList.drop i) 13 ∧ (Lib.indexByte (s.data.toList.drop i) 10 < 0 ∨ Lib.indexByte (s.data.toList.drop i) 13 < Lib.indexByte (s.data.toList.drop i) 10))) = if endOf (s.data.toList.drop i) < 0 then some (s.size : Int) else lex_Skip.l0 k s (wrap64 ((wrap64 (i + endOf (s.data.toList.drop i))) + 1)) := by
          by_cases hcnd : 0 ≤ Lib.indexByte (s.data.toList.drop i) 13 ∧ (Lib.indexByte (s.data.toList.drop i) 10 < 0 ∨ Lib.indexByte (s.data.toList.drop i) 13 < Lib.indexByte (s.data.toList.drop i) 10)
          · have e : endOf (s.data.toList.drop i) = Lib.indexByte (s.data.toList.drop i) 13 := by unfold endOf; rw [if_pos hcnd]
            rw [e, decide_eq_true hcnd, lex_Skip.j1, if_pos rfl]
          · have e : endOf (s.data.toList.drop i) = Lib.indexByte (s.data.toList.drop i) 10 := by unfold endOf; rw [if_neg hcnd]
            rw [e, decide_eq_false hcnd, lex_Skip.j1, if_neg (by decide)]
        have key2 : (if Lib.indexByte (s.data.toList.drop i) 13 ≥ 0 then (if Lib.indexByte (s.data.toList.drop i) 10 < 0 then lex_Skip.j1 (k + 1) s i (Lib.indexByte (s.data.toList.drop i) 10) (Lib.indexByte (s.data.toList.drop i) 13) true else lex_Skip.j1 (k + 1) s i (Lib.indexByte (s.data.toList.drop i) 10) (Lib.indexByte (s.data.toList.drop i) 13) (decide (Lib.indexByte (s.data.toList.drop i) 13 < Lib.indexByte (s.data.toList.drop i) 10))) else lex_Skip.j1 (k + 1) s i (Lib.indexByte (s.data.toList.drop i) 10) (Lib.indexByte (s.data.toList.drop i) 13) false) = lex_Skip.j1 (k + 1) s i (Lib.indexByte (s.data.toList.drop i) 10) (Lib.indexByte (s.data.toList.drop i) 13) (decide (0 ≤ Lib.indexByte (s.data.toList.drop i) 13 ∧ (Lib.indexByte (s.data.toList.drop i) 10 < 0 ∨ Lib.indexByte (s.data.toList.drop i) 13 < Lib.indexByte (s.data.toList.drop i) 10))) := by
          split
          · rename_i h1
            split
            · rename_i h2
              rw [decide_eq_true (show _ ∧ _ from ⟨h1, .inl h2⟩)]
            · rename_i h2
              congr 1
              rw [decide_eq_decide]
              constructor
              · intro h3; exact ⟨h1, .inr h3⟩
              · rintro ⟨_, h3 | h3⟩
                · exact absurd h3 h2
                · exact h3
          · rename_i h1
            rw [decide_eq_false (show ¬ (_ ∧ _) from fun h3 => h1 h3.1)]
        rw [key2, key]
        clear key key2 ha hb hx hc hc' hsk
        · rw [he]
          clear he
          have hih := fun (n : Nat) (h : n < (s.data.toList.drop i).length) => ih (i + n + 1) k (by omega) (by omega) (by omega)
          clear ih
          generalize (s.data.toList.drop i).length = L at *
          generalize hnn : nlAt (s.data.toList.drop i) = n at *
          clear hnn
          by_cases hn : n < L
          · rw [if_pos hn, if_pos hn, if_neg (by omega)]
            have e1 : wrap64 ((i : Int) + (n : Int)) = (i : Int) + (n : Int) := wrap_small (by omega) (by omega)
            have e2 : wrap64 ((i : Int) + (n : Int) + 1) = ((i + n + 1 : Nat) : Int) := by
              rw [wrap_small (by omega) (by omega)]; omega
            rw [e1, e2, hih n hn, List.drop_drop, show i + n + 1 = i + (n + 1) by omega, Nat.add_assoc]
          · rw [if_neg hn, if_neg hn, if_pos (by omega)]
            congr 1
            omega
      · have hc' : (s.data.toList[i] == 37) = false := by
          rw [beq_eq_false_iff_ne]; intro e; apply hc; rw [e]; rfl
        rw [if_neg hc, ← bt_get s i hlt, cls_get s i hlt (by omega)]
        simp only [Option.bind_some]
        have hr : skipG false (s.data.toList[i] :: s.data.toList.drop (i + 1)) = if clsOf (s.data.toList[i]).toNat == 1 then 1 + skipG false (s.data.toList.drop (i + 1)) else 0 := by
          rw [skipG, hc']; rfl
        rw [hr]
        by_cases h1 : clsOf (s.data.toList[i]).toNat = 1
        · rw [if_pos h1, if_pos (by simpa using h1), wrap_small (by omega) (by omega)]
          have := ih (i + 1) k (by omega) (by omega) (by omega)
          rw [show ((i : Int) + 1) = ((i + 1 : Nat) : Int) by omega, this]
          congr 1
          omega
        · rw [if_neg h1, if_neg (by simpa using h1)]
          rfl
    · simp only [lex_Skip.l0]
      rw [if_neg (by omega), List.drop_of_length_le (by rw [← size_list]; omega)]
      simp [skipG]
/-- What Skip tells. -/
def skipN (s : ByteArray) (a : Int) : Nat := placeN s a + skipG false (s.data.toList.drop (placeN s a))
theorem skipN_le (s : ByteArray) (a : Int) : skipN s a ≤ s.size := by
  have h1 := skipG_le (s.data.toList.drop (placeN s a)) false
  have h2 := placeN_le s a
  rw [List.length_drop, ← size_list] at h1
  unfold skipN; omega
theorem skip_eq (s : ByteArray) (hs : s.size < 4611686018427387904) (a : Int) {k : Nat} (hk : 2 * s.size + 4 ≤ k) : lex_Skip.f k s a = some (skipN s a : Int) := by
  unfold lex_Skip.f
  rw [place_eq]
  simp only [Option.bind_some]
  rw [skip_loop s hs s.size _ k (by omega) (placeN_le s a) hk]
  rfl
end Go.Proofs.YtfdikkdbmlcjiaaGreatDoor.M
end
section
namespace Go.Proofs.YtfdikkdbmlcjiaaGreatDoor.M
open Go.RowKit Go.Proofs.YtfdikkdbmlcjiaaGreatDoorW.PrintWords
set_option linter.unusedVariables false
set_option linter.unusedSimpArgs false
/-- Kind, number, text, length (or the error's place), error. -/
abbrev NxR := Int × Int × ByteArray × Nat × Int
def nxErr (len : Nat) (e : Int) : NxR := (0, 0, ⟨#[]⟩, len, e)
def hexedG (t : List UInt8) : NxR :=
  if (Lib.cut t [62]).2.2 = true then
    (if (unhG [] none (Lib.cut t [62]).1).1 = 0 then (4, 0, strOfNums (unhG [] none (Lib.cut t [62]).1).2.1, (Lib.cut t [62]).1.length + 2, 0)
     else nxErr (1 + ((Lib.cut t [62]).1.length - (unhG [] none (Lib.cut t [62]).1).2.2.length)) 1)
  else nxErr (t.length + 1) 2
def strungG (t : List UInt8) : NxR :=
  if (strG (t.length + 1) 1 [] t).1 = 0 then (5, 0, ⟨(strG (t.length + 1) 1 [] t).2.1.toArray⟩, t.length + 1 - (strG (t.length + 1) 1 [] t).2.2.length, 0)
  else nxErr (t.length + 1 - (strG (t.length + 1) 1 [] t).2.2.length) (strG (t.length + 1) 1 [] t).1
def wordedG (r : List UInt8) : NxR :=
  if (lexInt (wordAt r 0)).2 = 0 then (1, (lexInt (wordAt r 0)).1, ⟨#[]⟩, (wordAt r 0).length, 0)
  else if (lexInt (wordAt r 0)).2 = 3 then (3, 0, ⟨(wordAt r 0).toArray⟩, (wordAt r 0).length, 0)
  else nxErr 0 (lexInt (wordAt r 0)).2
def nextR (r : List UInt8) : NxR :=
  match signOf r with
  | some (x, m) => (x, 0, ⟨#[]⟩, m, 0)
  | none => match r with
    | [] => (0, 0, ⟨#[]⟩, 0, 0)
    | c :: t =>
      if c = 41 ∨ c = 62 then nxErr 0 3
      else if c = 47 then (2, 0, ⟨(nameGo (wordAt t 0)).toArray⟩, 1 + (wordAt t 0).length, 0)
      else if c = 60 then hexedG t
      else if c = 40 then strungG t
      else wordedG (c :: t)
def nxAns (p : Nat) (x : NxR) : TokR := if x.2.2.2.2 = 0 then (x.1, (p : Int), x.2.1, x.2.2.1, ((p + x.2.2.2.1 : Nat) : Int), 0) else (0, 0, 0, ⟨#[]⟩, ((p + x.2.2.2.1 : Nat) : Int), x.2.2.2.2)
theorem strG_rem : ∀ (n deep : Nat) (out r : List UInt8), (strG n deep out r).2.2.length ≤ r.length
  | 0, _, _, _ => by simp [strG]
  | _ + 1, _, _, [] => by simp [strG]
  | n + 1, deep, out, c :: t => by
    have ih := strG_rem n
    rw [strG]
    split
    · split
      · simp
      · refine Nat.le_trans (ih _ _ _) ?_
        rw [List.length_drop, List.length_cons]; omega
    · split
      · simp
      · split
        · simp
        · split
          · refine Nat.le_trans (ih _ _ _) ?_
            rw [List.length_drop]; omega
          · refine Nat.le_trans (ih _ _ _) ?_
            simp
theorem strung_rel (a0 : ByteArray) (p k : Nat) (t : List UInt8) (hs : a0.size ≤ 140737488351000) (hp : p < a0.size) (hk : a0.size + 4 ≤ k) (ht : a0.data.toList.drop (p + 1) = t) :
    tok_source_strung.f k a0 (p : Int) = some (nxAns p (strungG t)) := by
  have hl : t.length = a0.size - (p + 1) := by rw [← ht, List.length_drop, ← size_list]
  unfold tok_source_strung.f
  rw [if_pos ⟨by omega, by omega⟩]
  have := strung_loop a0 p hs k (by omega) (t.length + 1) (p + 1) 1 k [] (by omega) (by omega) (by omega) (by omega) (by omega) (by simp)
  rw [ht] at this
  rw [show (p : Int) + 1 = ((p + 1 : Nat) : Int) by omega, show (1 : Int) = ((1 : Nat) : Int) from rfl, this]
  congr 1
  have hr : (strG (t.length + 1) 1 [] t).2.2.length ≤ t.length := by
    exact strG_rem _ _ _ _
  unfold strAns strungG nxAns
  by_cases h0 : (strG (t.length + 1) 1 [] t).1 = 0
  · rw [if_pos h0, if_pos h0]
    dsimp only
    rw [if_pos rfl, show p + (t.length + 1 - (strG (t.length + 1) 1 [] t).2.2.length) = a0.size - (strG (t.length + 1) 1 [] t).2.2.length by omega]
  · rw [if_neg h0, if_neg h0]
    unfold nxErr
    dsimp only
    rw [if_neg h0, show p + (t.length + 1 - (strG (t.length + 1) 1 [] t).2.2.length) = a0.size - (strG (t.length + 1) 1 [] t).2.2.length by omega]
theorem worded_rel (a0 : ByteArray) (p k : Nat) (hs : a0.size ≤ 140737488351000) (hp : p ≤ a0.size) (hk : a0.size + 4 ≤ k) :
    tok_source_worded.f k a0 (p : Int) = some (nxAns p (wordedG (a0.data.toList.drop p))) := by
  have hpl : placeN a0 (p : Int) = p := by unfold placeN; omega
  have hw : wordAt (a0.data.toList.drop p) 0 = wordAt a0.data.toList p := by unfold wordAt; rw [List.drop_zero]
  have hl := wordAt_le a0.data.toList p (by rw [← size_list]; exact hp)
  unfold tok_source_worded.f
  rw [word_eq a0 (by omega) _ hk, Option.bind_some, hpl]
  unfold wordedG
  rw [hw]
  dsimp only
  rw [show lex_Int.f (⟨(wordAt a0.data.toList p).toArray⟩ : ByteArray) = some (lexInt (wordAt a0.data.toList p)) from by
    unfold lex_Int.f
    rw [if_pos (by rw [size_list, ba_list]; rw [← size_list] at hl; omega), ba_list], Option.bind_some]
  by_cases h0 : (lexInt (wordAt a0.data.toList p)).2 = 0
  · rw [if_pos h0, if_pos h0]
    rfl
  rw [if_neg h0, if_neg h0]
  by_cases h3 : (lexInt (wordAt a0.data.toList p)).2 = 3
  · rw [if_pos h3, if_pos h3]
    rfl
  rw [if_neg h3, if_neg h3]
  unfold nxAns nxErr
  dsimp only
  rw [if_neg h0, Nat.add_zero]
theorem index_gt : ∀ t : List UInt8, Lib.index t [62] = if 62 ∈ t then ((t.takeWhile (fun c => c != 62)).length : Int) else -1
  | [] => by simp [Lib.index]
  | b :: l => by
    have ih := index_gt l
    rw [Lib.index]
    by_cases hb : b = 62
    · subst hb
      rw [if_pos (by simp [List.isPrefixOf]), if_pos (by simp)]
      simp
    · rw [if_neg (by simp [List.isPrefixOf]; exact fun e => hb e.symm), ih]
      by_cases hm : 62 ∈ l
      · rw [if_pos hm, if_neg (by rw [beq_iff_eq]; omega), if_pos (List.mem_cons_of_mem _ hm), List.takeWhile_cons, if_pos (by simpa using hb), List.length_cons]
        omega
      · rw [if_neg hm, if_pos (by rfl), if_neg (by simp [hm]; exact fun e => hb e.symm)]
theorem cut_gt (t : List UInt8) : Lib.cut t [62] = if 62 ∈ t then (t.takeWhile (fun c => c != 62), t.drop ((t.takeWhile (fun c => c != 62)).length + 1), true) else (t, [], false) := by
  unfold Lib.cut
  rw [index_gt]
  by_cases hm : 62 ∈ t
  · rw [if_pos hm, if_pos (by omega), if_pos hm, Int.toNat_natCast, ← List.prefix_iff_eq_take.1 (List.takeWhile_prefix _)]
    rfl
  · rw [if_neg hm, if_neg (by decide), if_neg hm]
theorem take_gt : ∀ t : List UInt8, 62 ∈ t → (t.takeWhile (fun c => c != 62)).length + 1 ≤ t.length
  | [], h => by cases h
  | b :: l, h => by
    by_cases hb : b = 62
    · subst hb; simp
    · have hm : 62 ∈ l := by
        rcases List.mem_cons.1 h with e | e
        · exact absurd e.symm hb
        · exact e
      have := take_gt l hm
      rw [List.takeWhile_cons, if_pos (by simpa using hb), List.length_cons, List.length_cons]
      omega
theorem hexed_rel (a0 : ByteArray) (p k : Nat) (t : List UInt8) (hs : a0.size ≤ 4294967000) (hp : p < a0.size) (hk : 2 * a0.size + 4 ≤ k) (ht : a0.data.toList.drop (p + 1) = t) :
    tok_source_hexed.f k a0 (p : Int) = some (nxAns p (hexedG t)) := by
  have hl : t.length = a0.size - (p + 1) := by rw [← ht, List.length_drop, ← size_list]
  have hcl : (Lib.cut t [62]).2.2 = true → (Lib.cut t [62]).1.length + 1 ≤ t.length := by
    rw [cut_gt]
    split
    · rename_i hm
      exact fun _ => take_gt t hm
    · exact fun h => by cases h
  unfold tok_source_hexed.f
  rw [wrap_small (x := (p : Int) + 1) (by omega) (by omega), show (p : Int) + 1 = ((p + 1 : Nat) : Int) by omega, from_eq a0 (p + 1) (by omega), ht, Option.bind_some]
  have hts : (⟨t.toArray⟩ : ByteArray).size = t.length := by rw [size_list, ba_list]
  have hcs : (⟨(Lib.cut t [62]).1.toArray⟩ : ByteArray).size = (Lib.cut t [62]).1.length := by rw [size_list, ba_list]
  unfold strings_Cut.f
  rw [if_pos (by omega), Option.bind_some, ba_list, show (⟨#[62]⟩ : ByteArray).data.toList = [62] from rfl]
  unfold hexedG
  dsimp only
  by_cases hf : (Lib.cut t [62]).2.2 = true
  · have hfl := hcl hf
    rw [if_pos hf, if_pos hf, unhex_eq _ (by omega) (by omega), Option.bind_some, ba_list]
    unfold unhAns
    by_cases h0 : (unhG [] none (Lib.cut t [62]).1).1 = 0
    · rw [if_pos h0, if_pos h0]
      dsimp only
      rw [if_pos rfl, hcs, wrap_small (x := (p : Int) + ((Lib.cut t [62]).1.length : Int)) (by omega) (by omega), wrap_small (by omega) (by omega)]
      unfold nxAns
      dsimp only
      rw [if_pos rfl, show (p : Int) + ((Lib.cut t [62]).1.length : Int) + 2 = ((p + ((Lib.cut t [62]).1.length + 2) : Nat) : Int) by omega]
    · rw [if_neg h0, if_neg h0]
      dsimp only
      rw [if_neg (show ¬ (1 : Int) = 0 by decide), hcs]
      unfold nxAns nxErr
      dsimp only
      rw [if_neg (show ¬ (1 : Int) = 0 by decide), wrap_small (by omega) (by omega), show ((p + 1 : Nat) : Int) + (((Lib.cut t [62]).1.length - (unhG [] none (Lib.cut t [62]).1).2.2.length : Nat) : Int) = ((p + (1 + ((Lib.cut t [62]).1.length - (unhG [] none (Lib.cut t [62]).1).2.2.length)) : Nat) : Int) by omega]
  · rw [if_neg hf, if_neg hf]
    unfold nxAns nxErr
    dsimp only
    rw [if_neg (show ¬ (2 : Int) = 0 by decide), show p + (t.length + 1) = a0.size by omega]
end Go.Proofs.YtfdikkdbmlcjiaaGreatDoor.M
end
section
namespace Go.Proofs.YtfdikkdbmlcjiaaGreatDoor.M
open Go.RowKit Go.Proofs.YtfdikkdbmlcjiaaGreatDoorW.PrintWords
set_option linter.unusedVariables false
set_option linter.unusedSimpArgs false
def nextA (s : ByteArray) (a : Int) : TokR := if skipN s a = s.size then (0, (s.size : Int), 0, ⟨#[]⟩, (s.size : Int), 0) else nxAns (skipN s a) (nextR (s.data.toList.drop (skipN s a)))
set_option maxHeartbeats 1600000 in
theorem next_eq (s : ByteArray) (a : Int) (hs : s.size ≤ 4294967000) {k : Nat} (hk : 2 * s.size + 8 ≤ k) : tok_Next.f k s a = some (nextA s a) := by
  unfold tok_Next.f nextA
  rw [skip_eq s (by omega) a (by omega), Option.bind_some]
  have hpl := skipN_le s a
  generalize skipN s a = p at hpl
  by_cases he : p = s.size
  · rw [if_pos (by omega), if_pos he, he]
  rw [if_neg (by omega), if_neg he]
  have hp : p < s.size := by omega
  have hL : p < s.data.toList.length := by rw [← size_list]; exact hp
  have hdr := List.drop_eq_getElem_cons hL
  have hbt := bt_get s p hp
  rw [show tok_source_sign.f s (p : Int) = (match signOf (s.data.toList.drop p) with | some (x, n) => some (x, (p : Int), 0, ⟨#[]⟩, (p : Int) + n, true) | none => some (0, 0, 0, ⟨#[]⟩, (p : Int), false)) from by
    unfold tok_source_sign.f
    rw [if_pos ⟨by omega, by omega, by omega⟩, Int.toNat_natCast]
    cases signOf (s.data.toList.drop p) <;> rfl]
  unfold nextR
  cases hsg : signOf (s.data.toList.drop p) with
  | some xm =>
    obtain ⟨x, m⟩ := xm
    dsimp only
    rw [Option.bind_some, if_pos rfl]
    unfold nxAns
    dsimp only
    rw [if_pos rfl, show (p : Int) + (m : Int) = ((p + m : Nat) : Int) by omega]
  | none =>
    dsimp only
    rw [Option.bind_some]
    dsimp only
    rw [if_neg (show ¬ (false = true) by decide), if_pos (by omega), if_pos (by omega), hbt]
    have ht : s.data.toList.drop (p + 1) = s.data.toList.drop (p + 1) := rfl
    have hw := worded_rel s p
    rw [hdr] at hw ⊢
    generalize s.data.toList[p] = c at hw ⊢
    generalize hT : s.data.toList.drop (p + 1) = t at hw ⊢
    have hst := fun k => strung_rel s p k t (by omega) hp
    have hhx := fun k => hexed_rel s p k t hs hp
    obtain ⟨k, rfl⟩ : ∃ k', k = k' + 1 := ⟨k - 1, by omega⟩
    have cst : ∀ x : UInt8, ((c.toNat : Int) = (x.toNat : Int)) ↔ c = x := fun x => ⟨fun e => UInt8.toNat_inj.1 (by omega), fun e => by rw [e]⟩
    have c41 : ((c.toNat : Int) = 41) ↔ c = 41 := cst 41
    have c62 : ((c.toNat : Int) = 62) ↔ c = 62 := cst 62
    have c47 : ((c.toNat : Int) = 47) ↔ c = 47 := cst 47
    have c60 : ((c.toNat : Int) = 60) ↔ c = 60 := cst 60
    have c40 : ((c.toNat : Int) = 40) ↔ c = 40 := cst 40
    have key : ∀ b : Bool, (b = true ↔ (c = 41 ∨ c = 62)) → tok_Next.j0 (k + 1) s (p : Int) s (c.toNat : Int) b = some (nxAns p (if c = 41 ∨ c = 62 then nxErr 0 3 else if c = 47 then (2, 0, ⟨(nameGo (wordAt t 0)).toArray⟩, 1 + (wordAt t 0).length, 0) else if c = 60 then hexedG t else if c = 40 then strungG t else wordedG (c :: t))) := by
      intro b hb
      rw [tok_Next.j0]
      by_cases h : c = 41 ∨ c = 62
      · rw [if_pos (hb.2 h), if_pos h]
        rfl
      rw [if_neg (fun e => h (hb.1 e)), if_neg h]
      by_cases h1 : c = 47
      · rw [if_pos (c47.2 h1), if_pos h1, wrap_small (x := (p : Int) + 1) (by omega) (by omega), word_eq s (by omega) _ (by omega), Option.bind_some]
        have hpn : placeN s ((p : Int) + 1) = p + 1 := by unfold placeN; omega
        have hwa : wordAt s.data.toList (p + 1) = wordAt t 0 := by unfold wordAt; rw [hT, List.drop_zero]
        have hwl := wordAt_le s.data.toList (p + 1) (by rw [← size_list]; omega)
        rw [← size_list, hwa] at hwl
        rw [hpn, hwa]
        dsimp only
        rw [show lex_Name.f (⟨(wordAt t 0).toArray⟩ : ByteArray) = some ⟨(nameGo (wordAt t 0)).toArray⟩ from by
          unfold lex_Name.f
          rw [if_pos (by rw [size_list, ba_list]; omega), ba_list], Option.bind_some]
        unfold nxAns
        dsimp only
        rw [if_pos rfl, show p + (1 + (wordAt t 0).length) = p + 1 + (wordAt t 0).length by omega]
      rw [if_neg (fun e => h1 (c47.1 e)), if_neg h1]
      by_cases h2 : c = 60
      · rw [if_pos (c60.2 h2), if_pos h2, hhx k (by omega) hT, Option.bind_some]
      rw [if_neg (fun e => h2 (c60.1 e)), if_neg h2]
      by_cases h3 : c = 40
      · rw [if_pos (c40.2 h3), if_pos h3, hst k (by omega) hT, Option.bind_some]
      rw [if_neg (fun e => h3 (c40.1 e)), if_neg h3, hw k (by omega) (by omega) (by omega), Option.bind_some]
    by_cases h : (c.toNat : Int) = 41
    · rw [if_pos h]
      exact key _ ⟨fun _ => .inl (c41.1 h), fun _ => beq_iff_eq.2 h⟩
    · rw [if_neg h]
      refine key _ ⟨fun e => .inr (c62.1 (beq_iff_eq.1 e)), fun e => beq_iff_eq.2 ?_⟩
      rcases e with e | e
      · exact absurd (c41.2 e) h
      · exact c62.2 e
end Go.Proofs.YtfdikkdbmlcjiaaGreatDoor.M
end
section
namespace Go.Proofs.YtfdikkdbmlcjiaaGreatDoor.M
open Go.RowKit Go.Proofs.YtfdikkdbmlcjiaaGreatDoorW.PrintWords
set_option linter.unusedVariables false
set_option linter.unusedSimpArgs false
theorem nameGo_len : ∀ l : List UInt8, (nameGo l).length ≤ l.length
  | [] => Nat.le_refl _
  | [c] => by rw [nameGo_short c [] (by simp)]; simp [nameGo]
  | [c, a] => by
    rw [nameGo_short c [a] (by simp), nameGo_short a [] (by simp)]; simp [nameGo]
  | c :: a :: b :: l => by
    have h1 := nameGo_len (a :: b :: l)
    have h2 := nameGo_len l
    by_cases hc : (c == 35) = false
    · rw [nameGo_plain c _ hc]
      simp only [List.length_cons] at h1 ⊢; omega
    · cases ha : hexVal a.toNat with
      | none => rw [nameGo_no c a b l (by rw [ha]; rfl)]; simp only [List.length_cons] at h1 ⊢; omega
      | some x => cases hb : hexVal b.toNat with
        | none => rw [nameGo_no c a b l (by rw [ha, hb]; rfl)]; simp only [List.length_cons] at h1 ⊢; omega
        | some y =>
          have hc' : c = 35 := by simpa using hc
          rw [hc', nameGo_yes a b l x y ha hb]; simp only [List.length_cons] at h2 ⊢; omega
theorem strG_out : ∀ (n deep : Nat) (out r : List UInt8), (strG n deep out r).1 = 0 → (strG n deep out r).2.1.length + (strG n deep out r).2.2.length + 1 ≤ out.length + r.length
  | 0, _, _, _ => by intro h; exact absurd h (by simp [strG])
  | _ + 1, _, _, [] => by intro h; exact absurd h (by simp [strG])
  | n + 1, deep, out, c :: t => by
    have ih := strG_out n
    have he := escG_le t
    have hl := lineG_le (c :: t)
    rw [strG]
    split
    · split
      · intro h; exact absurd h (by decide)
      · intro h
        have := ih _ _ _ h
        rw [List.length_append, List.length_drop] at this
        rw [List.length_cons]; omega
    · split
      · intro _; simp only [List.length_cons]; omega
      · split
        · intro h; exact absurd (show (5 : Int) = 0 from h) (by decide)
        · split
          · intro h
            have := ih _ _ _ h
            rw [List.length_append, List.length_drop, List.length_singleton] at this
            omega
          · intro h
            have := ih _ _ _ h
            rw [List.length_append, List.length_singleton] at this
            rw [List.length_cons]; omega
theorem unhG_out : ∀ (t : List UInt8) (acc : List Int) (hi : Option Int), (unhG acc hi t).2.1.length ≤ acc.length + t.length + 1 ∧ (hi = none → (unhG acc hi t).2.1.length ≤ acc.length + t.length) ∧ (unhG acc hi t).2.2.length ≤ t.length
  | [], acc, hi => by
    rw [unhG]
    have := rowOf_length acc hi
    refine ⟨by simpa using this, ?_, by simp⟩
    rintro rfl
    simp [rowOf]
  | c :: t, acc, hi => by
    rw [unhG]
    cases hexVal c.toNat with
    | some v =>
      cases hi with
      | none =>
        have ih := unhG_out t acc (some v)
        simp only [List.length_cons]
        exact ⟨by omega, fun _ => by omega, by omega⟩
      | some h =>
        have ih := unhG_out t (acc ++ [h * 16 + v]) none
        simp only [List.length_cons, List.length_append, List.length_nil] at ih ⊢
        exact ⟨by omega, fun e => by (cases e), by omega⟩
    | none =>
      dsimp only
      split
      · have ih := unhG_out t acc hi
        simp only [List.length_cons]
        exact ⟨by omega, fun e => by have := ih.2.1 e; omega, by omega⟩
      · simp
theorem str_nums_size (l : List Int) : (strOfNums l).size = l.length := by
  unfold strOfNums
  show (List.toArray _).size = _
  simp
/-- What is told of the next token: how long it is, what kind, how long its text is. -/
def NxOk (r : List UInt8) (x : NxR) : Prop := x.2.2.2.1 ≤ r.length ∧ (x.2.2.2.2 = 0 → 1 ≤ x.2.2.2.1 ∧ 1 ≤ x.1 ∧ x.1 ≤ 11 ∧ x.2.2.1.size ≤ x.2.2.2.1)
theorem nxErr_ok (r : List UInt8) (len : Nat) (e : Int) (he : e ≠ 0) (hl : len ≤ r.length) : NxOk r (nxErr len e) := ⟨hl, fun h => absurd h he⟩
theorem hexedG_ok (c : UInt8) (t : List UInt8) : NxOk (c :: t) (hexedG t) := by
  unfold hexedG
  rw [cut_gt]
  by_cases hm : 62 ∈ t
  · rw [if_pos hm]
    dsimp only
    have ht := take_gt t hm
    have hu := unhG_out (t.takeWhile (fun c => c != 62)) [] none
    rw [if_pos rfl]
    split
    · refine ⟨by simp only [List.length_cons]; omega, fun _ => ⟨by simp, by show (1 : Int) ≤ 4; decide, by show (4 : Int) ≤ 11; decide, ?_⟩⟩
      dsimp only
      rw [str_nums_size]
      have := hu.2.1 rfl
      simp only [List.length_nil] at this
      omega
    · exact nxErr_ok _ _ _ (by decide) (by simp only [List.length_cons]; omega)
  · rw [if_neg hm]
    dsimp only
    rw [if_neg (by decide)]
    exact nxErr_ok _ _ _ (by decide) (by simp)
theorem strungG_ok (c : UInt8) (t : List UInt8) : NxOk (c :: t) (strungG t) := by
  unfold strungG
  have hr := strG_rem (t.length + 1) 1 [] t
  split
  · rename_i h
    have ho := strG_out (t.length + 1) 1 [] t h
    simp only [List.length_nil] at ho
    refine ⟨by dsimp only; rw [List.length_cons]; omega, fun _ => ⟨by dsimp only; omega, by show (1 : Int) ≤ 5; decide, by show (5 : Int) ≤ 11; decide, ?_⟩⟩
    dsimp only
    rw [ba_size]
    omega
  · rename_i h
    exact nxErr_ok _ _ _ h (by rw [List.length_cons]; omega)
theorem wordAt_zero (r : List UInt8) : wordAt r 0 = r.takeWhile isRegB := by unfold wordAt; rw [List.drop_zero]
theorem wordedG_ok (r : List UInt8) (h : 1 ≤ (wordAt r 0).length) : NxOk r (wordedG r) := by
  have hl := wordAt_le r 0 (by omega)
  unfold wordedG
  split
  · refine ⟨by dsimp only; omega, fun _ => ⟨h, by show (1 : Int) ≤ 1; decide, by show (1 : Int) ≤ 11; decide, ?_⟩⟩
    dsimp only
    show 0 ≤ _
    omega
  · split
    · refine ⟨by dsimp only; omega, fun _ => ⟨h, by show (1 : Int) ≤ 3; decide, by show (3 : Int) ≤ 11; decide, ?_⟩⟩
      dsimp only
      rw [ba_size]
      omega
    · rename_i h0 _
      exact nxErr_ok _ _ _ h0 (by omega)
theorem signOf_len (r : List UInt8) (x : Int) (m : Nat) (h : signOf r = some (x, m)) : ∃ s, isSign x s ∧ s.isPrefixOf r = true ∧ m = s.length := by
  unfold signOf at h
  have fin : ∀ (y : Int) (s : List UInt8), isSign y s → s.isPrefixOf r = true → (y, s.length) = (x, m) → ∃ s, isSign x s ∧ s.isPrefixOf r = true ∧ m = s.length := by
    intro y s hy hs e
    injection e with e1 e2
    subst e1 e2
    exact ⟨s, hy, hs, rfl⟩
  split at h
  · rename_i hp; exact fin 6 [91] (by simp [isSign]) hp (Option.some.inj h)
  split at h
  · rename_i hp; exact fin 7 [93] (by simp [isSign]) hp (Option.some.inj h)
  split at h
  · rename_i hp; exact fin 8 [60, 60] (by simp [isSign]) hp (Option.some.inj h)
  split at h
  · rename_i hp; exact fin 9 [62, 62] (by simp [isSign]) hp (Option.some.inj h)
  split at h
  · rename_i hp; exact fin 10 [123] (by simp [isSign]) hp (Option.some.inj h)
  split at h
  · rename_i hp; exact fin 11 [125] (by simp [isSign]) hp (Option.some.inj h)
  · cases h
theorem sign_ok {x : Int} {s r : List UInt8} (hs : isSign x s) (hp : s.isPrefixOf r = true) : NxOk r (x, 0, ⟨#[]⟩, s.length, 0) := by
  have hl := (List.isPrefixOf_iff_prefix.1 hp).length_le
  refine ⟨hl, fun _ => ?_⟩
  dsimp only
  refine ⟨?_, ?_, ?_, Nat.zero_le _⟩
  · rcases hs with ⟨rfl, rfl⟩ | ⟨rfl, rfl⟩ | ⟨rfl, rfl⟩ | ⟨rfl, rfl⟩ | ⟨rfl, rfl⟩ | ⟨rfl, rfl⟩ <;> decide
  · rcases hs with ⟨rfl, rfl⟩ | ⟨rfl, rfl⟩ | ⟨rfl, rfl⟩ | ⟨rfl, rfl⟩ | ⟨rfl, rfl⟩ | ⟨rfl, rfl⟩ <;> decide
  · rcases hs with ⟨rfl, rfl⟩ | ⟨rfl, rfl⟩ | ⟨rfl, rfl⟩ | ⟨rfl, rfl⟩ | ⟨rfl, rfl⟩ | ⟨rfl, rfl⟩ <;> decide
/-- A byte is regular, a blank, or one of ten. -/
theorem byte_cases : ∀ n : Fin 256, isRegB n.val.toUInt8 = true ∨ (clsOf (n.val.toUInt8).toNat == 1) = true ∨ n.val.toUInt8 ∈ ([40, 41, 60, 62, 91, 93, 123, 125, 47, 37] : List UInt8) := by decide +kernel
theorem byte_case (c : UInt8) : isRegB c = true ∨ (clsOf c.toNat == 1) = true ∨ c ∈ ([40, 41, 60, 62, 91, 93, 123, 125, 47, 37] : List UInt8) := by
  have := byte_cases ⟨c.toNat, c.toNat_lt⟩
  rw [show ((⟨c.toNat, c.toNat_lt⟩ : Fin 256).val.toUInt8) = c from UInt8.ofNat_toNat] at this
  exact this
theorem sign_first {c : UInt8} (t : List UInt8) (h : c = 91 ∨ c = 93 ∨ c = 123 ∨ c = 125) : signOf (c :: t) ≠ none := by
  rcases h with rfl | rfl | rfl | rfl <;> simp [signOf, List.isPrefixOf]
theorem nextR_ok (c : UInt8) (t : List UInt8) (hk : skipG false (c :: t) = 0) : NxOk (c :: t) (nextR (c :: t)) := by
  unfold nextR
  cases hsg : signOf (c :: t) with
  | some xm =>
    obtain ⟨x, m⟩ := xm
    obtain ⟨s, hs, hp, rfl⟩ := signOf_len _ _ _ hsg
    exact sign_ok hs hp
  | none =>
    dsimp only
    split
    · exact nxErr_ok _ _ _ (by decide) (by simp)
    rename_i n1
    split
    · have hl := wordAt_le t 0 (by omega)
      have hn := nameGo_len (wordAt t 0)
      refine ⟨by dsimp only; rw [List.length_cons]; omega, fun _ => ⟨by dsimp only; omega, by show (1 : Int) ≤ 2; decide, by show (2 : Int) ≤ 11; decide, ?_⟩⟩
      dsimp only
      rw [ba_size]
      omega
    rename_i n2
    split
    · exact hexedG_ok c t
    rename_i n3
    split
    · exact strungG_ok c t
    rename_i n4
    have hz := skipG_zero c t hk
    refine wordedG_ok _ ?_
    rcases byte_case c with h | h | h
    · rw [wordAt_zero, List.takeWhile_cons, if_pos h, List.length_cons]
      omega
    · rw [hz.2] at h; cases h
    · exfalso
      simp only [List.mem_cons, List.mem_nil_iff, or_false] at h
      have h37 : c ≠ 37 := by have := hz.1; rw [beq_eq_false_iff_ne] at this; exact this
      have hs : ¬ (c = 91 ∨ c = 93 ∨ c = 123 ∨ c = 125) := fun h => sign_first t h hsg
      rcases h with h | h | h | h | h | h | h | h | h | h
      · exact n4 h
      · exact n1 (.inl h)
      · exact n3 h
      · exact n1 (.inr h)
      · exact hs (.inl h)
      · exact hs (.inr (.inl h))
      · exact hs (.inr (.inr (.inl h)))
      · exact hs (.inr (.inr (.inr h)))
      · exact n2 h
      · exact h37 h
/-- All tokens of a text that begins at a place; the place and the error. -/
def allG : Nat → Nat → List UInt8 → List S31 × Nat × Int
  | 0, p, r => ([], p + r.length, 0)
  | n + 1, p, r =>
    if skipG false r = r.length then ([], p + r.length, 0)
    else if (nextR (r.drop (skipG false r))).2.2.2.2 = 0 then
      (if (allG n (p + skipG false r + (nextR (r.drop (skipG false r))).2.2.2.1) (r.drop (skipG false r + (nextR (r.drop (skipG false r))).2.2.2.1))).2.2 = 0 then
        ((⟨(nextR (r.drop (skipG false r))).1, ((p + skipG false r : Nat) : Int), (nextR (r.drop (skipG false r))).2.1, (nextR (r.drop (skipG false r))).2.2.1⟩ : S31) :: (allG n (p + skipG false r + (nextR (r.drop (skipG false r))).2.2.2.1) (r.drop (skipG false r + (nextR (r.drop (skipG false r))).2.2.2.1))).1,
          (allG n (p + skipG false r + (nextR (r.drop (skipG false r))).2.2.2.1) (r.drop (skipG false r + (nextR (r.drop (skipG false r))).2.2.2.1))).2)
      else ([], (allG n (p + skipG false r + (nextR (r.drop (skipG false r))).2.2.2.1) (r.drop (skipG false r + (nextR (r.drop (skipG false r))).2.2.2.1))).2))
    else ([], p + skipG false r + (nextR (r.drop (skipG false r))).2.2.2.1, (nextR (r.drop (skipG false r))).2.2.2.2)
theorem drop_skip (r : List UInt8) (h : skipG false r ≠ r.length) : ∃ c t, r.drop (skipG false r) = c :: t ∧ skipG false (c :: t) = 0 ∧ skipG false r + (t.length + 1) = r.length := by
  have hle := skipG_le r false
  have hst := skipG_stable r false
  have hdl : (r.drop (skipG false r)).length = r.length - skipG false r := List.length_drop
  generalize r.drop (skipG false r) = d at hst hdl
  rcases d with _ | ⟨c, t⟩
  · simp only [List.length_nil] at hdl; omega
  · refine ⟨c, t, rfl, hst, ?_⟩
    rw [List.length_cons] at hdl
    omega
/-- One step, spelled by its parts. -/
theorem allG_end (n p : Nat) (r : List UInt8) (h : skipG false r = r.length) : allG n p r = ([], p + r.length, 0) := by
  cases n with
  | zero => rw [allG]
  | succ n => rw [allG, if_pos h]
theorem allG_err (n p : Nat) (r d : List UInt8) (x : NxR) (h : skipG false r ≠ r.length) (hd : r.drop (skipG false r) = d) (hx : nextR d = x) (he : x.2.2.2.2 ≠ 0) : allG (n + 1) p r = ([], p + skipG false r + x.2.2.2.1, x.2.2.2.2) := by
  subst hd; subst hx
  rw [allG, if_neg h, if_neg he]
theorem allG_tok (n p : Nat) (r d : List UInt8) (x : NxR) (y : List S31 × Nat × Int) (h : skipG false r ≠ r.length) (hd : r.drop (skipG false r) = d) (hx : nextR d = x) (he : x.2.2.2.2 = 0)
    (hy : allG n (p + skipG false r + x.2.2.2.1) (d.drop x.2.2.2.1) = y) :
    allG (n + 1) p r = if y.2.2 = 0 then ((⟨x.1, ((p + skipG false r : Nat) : Int), x.2.1, x.2.2.1⟩ : S31) :: y.1, y.2) else ([], y.2) := by
  subst hd; subst hx
  rw [List.drop_drop] at hy
  subst hy
  rw [allG, if_neg h, if_pos he]
theorem nextA_at (s : ByteArray) (i : Nat) (hi : i ≤ s.size) (r : List UInt8) (hr : s.data.toList.drop i = r) :
    nextA s (i : Int) = if skipG false r = r.length then (0, (s.size : Int), 0, ⟨#[]⟩, (s.size : Int), 0) else nxAns (i + skipG false r) (nextR (r.drop (skipG false r))) := by
  have hpl : placeN s (i : Int) = i := by unfold placeN; omega
  have hrl : r.length = s.size - i := by rw [← hr, List.length_drop, ← size_list]
  have hsk : skipN s (i : Int) = i + skipG false r := by unfold skipN; rw [hpl, hr]
  unfold nextA
  rw [hsk, ← List.drop_drop, hr]
  by_cases h : skipG false r = r.length
  · rw [if_pos h, if_pos (by omega)]
  · rw [if_neg h, if_neg (by omega)]
def allOut (acc : List S31) (y : List S31 × Nat × Int) : List S31 × Int × Int := if y.2.2 = 0 then (acc ++ y.1, (y.2.1 : Int), 0) else ([], (y.2.1 : Int), y.2.2)
theorem all_loop (s : ByteArray) (hs : s.size ≤ 60000) : ∀ (n i k : Nat) (acc : List S31), i ≤ s.size → s.size - i < n → n + 2 * s.size + 8 ≤ k → acc.length ≤ i →
    tok_All.l0 k s acc (i : Int) = some (allOut acc (allG n i (s.data.toList.drop i)))
  | 0, i, k, acc => fun _ h => by omega
  | n + 1, i, k, acc => by
    intro hi hn hk ha
    obtain ⟨k, rfl⟩ : ∃ k', k = k' + 1 := ⟨k - 1, by omega⟩
    have ih := all_loop s hs n
    have hdl : (s.data.toList.drop i).length = s.size - i := by rw [List.length_drop, ← size_list]
    have hdd : ∀ m, (s.data.toList.drop i).drop m = s.data.toList.drop (i + m) := fun m => by rw [List.drop_drop]
    generalize hr : s.data.toList.drop i = r at hdl hdd
    rw [tok_All.l0, next_eq s _ (by omega) (by omega), Option.bind_some, nextA_at s i hi r hr]
    by_cases h : skipG false r = r.length
    · rw [if_pos h, allG_end _ _ _ h]
      dsimp only
      rw [if_pos rfl, if_pos rfl]
      unfold allOut
      dsimp only
      rw [if_pos rfl, List.append_nil, hdl, show i + (s.size - i) = s.size by omega]
    rw [if_neg h]
    obtain ⟨c, t, hd, hz, hlen⟩ := drop_skip r h
    have ok := nextR_ok c t hz
    have hdd2 := hdd (skipG false r)
    rw [hd] at hdd2 ⊢
    generalize hx : nextR (c :: t) = x at ok
    have ok1 := ok.1
    rw [List.length_cons] at ok1
    unfold nxAns
    by_cases he : x.2.2.2.2 = 0
    · obtain ⟨o1, o2, o3, o4⟩ := ok.2 he
      rw [if_pos he]
      dsimp only
      have hlast := ih (i + skipG false r + x.2.2.2.1) k (acc ++ [(⟨x.1, ((i + skipG false r : Nat) : Int), x.2.1, x.2.2.1⟩ : S31)]) (by omega) (by omega) (by omega) (by rw [List.length_append, List.length_singleton]; omega)
      have hdx : s.data.toList.drop (i + skipG false r + x.2.2.2.1) = (c :: t).drop x.2.2.2.1 := by rw [hdd2, List.drop_drop]
      rw [if_pos rfl, if_neg (by omega), if_neg (by omega), if_pos (by omega), hlast, hdx]
      rw [allG_tok n i r (c :: t) x _ h hd hx he rfl]
      congr 1
      unfold allOut
      by_cases hy : (allG n (i + skipG false r + x.2.2.2.1) (List.drop x.2.2.2.1 (c :: t))).2.2 = 0
      · rw [if_pos hy, if_pos hy]
        dsimp only
        rw [if_pos hy, List.append_assoc]
        rfl
      · rw [if_neg hy, if_neg hy]
        dsimp only
        rw [if_neg hy]
    · rw [if_neg he, allG_err n i r (c :: t) x h hd hx he]
      dsimp only
      rw [if_neg he]
      unfold allOut
      dsimp only
      rw [if_neg he]
theorem all_eq (s : ByteArray) (hs : s.size ≤ 60000) {k : Nat} (hk : 3 * s.size + 10 ≤ k) : tok_All.f k s = some (allOut [] (allG (s.size + 1) 0 s.data.toList)) := by
  unfold tok_All.f
  have := all_loop s hs (s.size + 1) 0 k [] (by omega) (by omega) (by omega) (by simp)
  rw [List.drop_zero] at this
  exact this
end Go.Proofs.YtfdikkdbmlcjiaaGreatDoor.M
end
section
namespace Go.Proofs.YtfdikkdbmlcjiaaGreatDoor.M
open Go.RowKit Go.Proofs.YtfdikkdbmlcjiaaGreatDoorW.PrintWords
set_option linter.unusedVariables false
/-- The number that the digits spell, behind those that spell acc. -/
def digN (c : UInt8) : Nat := c.toNat - 48
def valD (acc : Nat) (l : List UInt8) : Nat := l.foldl (fun a c => a * 10 + digN c) acc
theorem valD_nil (acc : Nat) : valD acc [] = acc := rfl
theorem valD_cons (acc : Nat) (c : UInt8) (r : List UInt8) : valD acc (c :: r) = valD (acc * 10 + digN c) r := by
  unfold valD; rw [List.foldl_cons]
attribute [irreducible] valD
theorem valD_ge : ∀ (l : List UInt8) (acc : Nat), acc ≤ valD acc l
  | [], acc => Nat.le_of_eq (valD_nil acc).symm
  | c :: r, acc => by
    have := valD_ge r (acc * 10 + digN c)
    rw [valD_cons]; omega
theorem parseUintM_val : ∀ (l : List UInt8) (acc : Nat), acc ≤ 4294967295 → l.all isDigB = true → Lib.parseUintM 4294967295 acc l = if valD acc l ≤ 4294967295 then .ok (valD acc l) else .range
  | [], acc, ha, _ => by rw [valD_nil, if_pos ha, Lib.parseUintM]
  | c :: r, acc, ha, h => by
    simp only [List.all_cons, Bool.and_eq_true] at h
    have h1 := h.1
    simp only [isDigB, Bool.and_eq_true, decide_eq_true_eq] at h1
    rw [Lib.parseUintM, valD_cons, if_pos (by omega), if_neg (by omega)]
    have hd : digN c = c.toNat - 48 := rfl
    rw [← hd]
    by_cases hle : 4294967295 < acc * 10 + digN c
    · have := valD_ge r (acc * 10 + digN c)
      rw [if_pos hle, if_neg (by omega)]
    · rw [if_neg hle]
      exact parseUintM_val r _ (by omega) h.2
theorem parseUintB_val (l : List UInt8) (h0 : l ≠ []) (h : l.all isDigB = true) : Lib.parseUintB 32 l = if valD 0 l ≤ 4294967295 then .ok (valD 0 l) else .range := by
  unfold Lib.parseUintB
  rw [if_neg h0]
  exact parseUintM_val l 0 (by omega) h
theorem whole_digits (l : List UInt8) (h0 : l ≠ []) (h : l.all isDigB = true) : wholeB l = true := by
  match l, h0 with
  | c :: r, _ =>
    have hc : isDigB c = true := by simp only [List.all_cons, Bool.and_eq_true] at h; exact h.1
    have n1 : (c == 43) = false := by rw [beq_eq_false_iff_ne]; rintro rfl; exact absurd hc (by decide)
    have n2 : (c == 45) = false := by rw [beq_eq_false_iff_ne]; rintro rfl; exact absurd hc (by decide)
    have hu : unsign (c :: r) = c :: r := by
      simp only [unsign]
      rw [if_neg (by rw [n1, n2]; decide)]
    unfold wholeB
    rw [hu, h]; rfl
theorem whole_plus (l : List UInt8) (h0 : l ≠ []) (h : l.all isDigB = true) : wholeB (43 :: l) = true := by
  unfold wholeB unsign
  simp only [beq_self_eq_true, Bool.true_or, if_true, h, Bool.and_true]
  cases l with
  | nil => exact absurd rfl h0
  | cons c r => rfl
theorem whole_minus (l : List UInt8) (h0 : l ≠ []) (h : l.all isDigB = true) : wholeB (45 :: l) = true := by
  unfold wholeB unsign
  simp only [beq_self_eq_true, Bool.or_true, if_true, h, Bool.and_true]
  cases l with
  | nil => exact absurd rfl h0
  | cons c r => rfl
theorem lexInt_minus (l : List UInt8) (h0 : l ≠ []) (h : l.all isDigB = true) : lexInt (45 :: l) = if valD 0 l ≤ 2147483648 then (-(valD 0 l : Int), 0) else (0, 4) := by
  unfold lexInt
  rw [if_pos (whole_minus l h0 h), Lib.parseIntB_minus, parseUintB_val l h0 h]
  by_cases h1 : valD 0 l ≤ 2147483648
  · rw [if_pos h1, if_pos (by omega)]
    simp only [Lib.signedC]
    rw [if_neg (by omega)]
  · rw [if_neg h1]
    by_cases h2 : valD 0 l ≤ 4294967295
    · rw [if_pos h2]
      simp only [Lib.signedC]
      rw [if_pos (by omega)]
    · rw [if_neg h2]
      rfl
theorem signless_val (l : List UInt8) (h0 : l ≠ []) (h : l.all isDigB = true) : (match Lib.signlessC (2 ^ (32 - 1)) (Lib.parseUintB 32 l) with | .ok v => (v, 0) | _ => (0, 4)) = if valD 0 l ≤ 2147483647 then ((valD 0 l : Int), (0 : Int)) else (0, 4) := by
  rw [parseUintB_val l h0 h]
  by_cases h1 : valD 0 l ≤ 2147483647
  · rw [if_pos h1, if_pos (by omega)]
    simp only [Lib.signlessC]
    rw [if_neg (by omega)]
  · rw [if_neg h1]
    by_cases h2 : valD 0 l ≤ 4294967295
    · rw [if_pos h2]
      simp only [Lib.signlessC]
      rw [if_pos (by omega)]
    · rw [if_neg h2]
      rfl
theorem lexInt_plus (l : List UInt8) (h0 : l ≠ []) (h : l.all isDigB = true) : lexInt (43 :: l) = if valD 0 l ≤ 2147483647 then ((valD 0 l : Int), (0 : Int)) else (0, 4) := by
  unfold lexInt
  rw [if_pos (whole_plus l h0 h), Lib.parseIntB_plus]
  exact signless_val l h0 h
theorem lexInt_digits (l : List UInt8) (h0 : l ≠ []) (h : l.all isDigB = true) : lexInt l = if valD 0 l ≤ 2147483647 then ((valD 0 l : Int), (0 : Int)) else (0, 4) := by
  have hw := whole_digits l h0 h
  match l, h0 with
  | c :: r, h0 =>
    have hc : isDigB c = true := by simp only [List.all_cons, Bool.and_eq_true] at h; exact h.1
    simp only [isDigB, Bool.and_eq_true, decide_eq_true_eq] at hc
    unfold lexInt
    rw [if_pos hw, Lib.parseIntB_plain 32 c r (by omega) (by omega)]
    exact signless_val (c :: r) h0 h
theorem lexInt_none (l : List UInt8) (h : wholeB l = false) : lexInt l = (0, 3) := by
  unfold lexInt; rw [h]; rfl
/-- Every text is one of four. -/
theorem int_cases (l : List UInt8) : (∃ r, l = 43 :: r ∧ r ≠ [] ∧ r.all isDigB = true) ∨ (∃ r, l = 45 :: r ∧ r ≠ [] ∧ r.all isDigB = true) ∨ (l ≠ [] ∧ l.all isDigB = true) ∨ wholeB l = false := by
  cases hw : wholeB l with
  | false => exact .inr (.inr (.inr rfl))
  | true =>
    unfold wholeB at hw
    simp only [Bool.and_eq_true, Bool.not_eq_true', List.isEmpty_eq_false_iff] at hw
    match l with
    | [] => exact absurd rfl hw.1
    | c :: r =>
      simp only [unsign] at hw
      split at hw
      · rename_i hc
        simp only [Bool.or_eq_true, beq_iff_eq] at hc
        rcases hc with rfl | rfl
        · exact .inl ⟨r, rfl, hw.1, hw.2⟩
        · exact .inr (.inl ⟨r, rfl, hw.1, hw.2⟩)
      · exact .inr (.inr (.inl ⟨by simp, hw.2⟩))
end Go.Proofs.YtfdikkdbmlcjiaaGreatDoor.M
end
section
namespace Go.Proofs.YtfdikkdbmlcjiaaGreatDoor.M
open Go.RowKit Go.Proofs.YtfdikkdbmlcjiaaGreatDoorW.PrintWords
set_option linter.unusedVariables false
set_option linter.unusedSimpArgs false
theorem nDigits_le (k : Nat) : ∀ u : Nat, u < 10 ^ (k + 1) → Lib.nDigits u ≤ k + 1 := by
  induction k with
  | zero => intro u h; rw [Lib.nDigits_small (by simpa using h)]; omega
  | succ k ih =>
    intro u h
    by_cases h1 : u < 10
    · rw [Lib.nDigits_small h1]; omega
    · rw [Lib.nDigits_big h1]
      have := ih (u / 10) (by rw [Nat.pow_succ] at h; omega)
      omega
theorem itoa_len (n : Int) (h0 : -2147483648 ≤ n) (h1 : n ≤ 2147483647) : (Lib.itoa n).length ≤ 11 := by
  unfold Lib.itoa
  split
  · have := nDigits_le 9 n.natAbs (by show _ < 10000000000; omega)
    rw [List.length_cons, Lib.decDigits_length]; omega
  · have := nDigits_le 9 n.toNat (by show _ < 10000000000; omega)
    rw [Lib.decDigits_length]; omega
theorem lexInt_range (l : List UInt8) (h : (lexInt l).2 = 0) : -2147483648 ≤ (lexInt l).1 ∧ (lexInt l).1 ≤ 2147483647 := by
  rcases int_cases l with ⟨r, rfl, h0, hd⟩ | ⟨r, rfl, h0, hd⟩ | ⟨h0, hd⟩ | hw
  · rw [lexInt_plus r h0 hd] at h ⊢
    split at h
    · rename_i hv; rw [if_pos hv]; dsimp only; omega
    · exact absurd (show (4 : Int) = 0 from h) (by decide)
  · rw [lexInt_minus r h0 hd] at h ⊢
    split at h
    · rename_i hv; rw [if_pos hv]; dsimp only; omega
    · exact absurd (show (4 : Int) = 0 from h) (by decide)
  · rw [lexInt_digits l h0 hd] at h ⊢
    split at h
    · rename_i hv; rw [if_pos hv]; dsimp only; omega
    · exact absurd (show (4 : Int) = 0 from h) (by decide)
  · rw [lexInt_none l hw] at h
    exact absurd (show (3 : Int) = 0 from h) (by decide)
theorem take_no (l m : List UInt8) (h : ∀ c ∈ l, c ≠ 62) : (l ++ 62 :: m).takeWhile (fun c => c != 62) = l := by
  induction l with
  | nil => simp
  | cons c l ih =>
    have hc : (c != 62) = true := by rw [bne_iff_ne]; exact h c (by simp)
    rw [List.cons_append, List.takeWhile_cons, if_pos hc, ih (fun d hd => h d (by simp [hd]))]
/-- A token, written. -/
def showG (kind n : Int) (s : ByteArray) : List UInt8 :=
  if kind = 1 then Lib.itoa n else if kind = 2 then 47 :: writeBytes s.data.toList else if kind = 3 then s.data.toList
  else if kind = 4 then 60 :: (hexBytes (bytesOf s) ++ [62]) else if kind = 5 then 40 :: (quoteBytes s.data.toList ++ [41]) else signText kind
/-- A token that may be read. -/
def OkTok (kind n : Int) (s : ByteArray) : Prop :=
  (kind = 1 ∧ -2147483648 ≤ n ∧ n ≤ 2147483647 ∧ s = ⟨#[]⟩) ∨ (kind = 2 ∧ n = 0) ∨ (kind = 3 ∧ n = 0 ∧ s.data.toList ≠ [] ∧ s.data.toList.all isRegB = true ∧ (lexInt s.data.toList).2 = 3) ∨
  (kind = 4 ∧ n = 0) ∨ (kind = 5 ∧ n = 0) ∨ ((∃ t, isSign kind t) ∧ n = 0 ∧ s = ⟨#[]⟩)
theorem nextR_sign (r : List UInt8) (x : Int) (m : Nat) (h : signOf r = some (x, m)) : nextR r = (x, 0, ⟨#[]⟩, m, 0) := by unfold nextR; rw [h]
theorem nextR_cons (c : UInt8) (t : List UInt8) (h : signOf (c :: t) = none) : nextR (c :: t) = if c = 41 ∨ c = 62 then nxErr 0 3
      else if c = 47 then (2, 0, ⟨(nameGo (wordAt t 0)).toArray⟩, 1 + (wordAt t 0).length, 0)
      else if c = 60 then hexedG t
      else if c = 40 then strungG t
      else wordedG (c :: t) := by unfold nextR; rw [h]
theorem signText_eq {x : Int} {t : List UInt8} (h : isSign x t) : signText x = t ∧ x ≠ 1 ∧ x ≠ 2 ∧ x ≠ 3 ∧ x ≠ 4 ∧ x ≠ 5 := by
  rcases h with ⟨rfl, rfl⟩ | ⟨rfl, rfl⟩ | ⟨rfl, rfl⟩ | ⟨rfl, rfl⟩ | ⟨rfl, rfl⟩ | ⟨rfl, rfl⟩ <;> exact ⟨rfl, by decide, by decide, by decide, by decide, by decide⟩
/-- What is read may be read. -/
theorem nextR_tok (c : UInt8) (t : List UInt8) (hk : skipG false (c :: t) = 0) (he : (nextR (c :: t)).2.2.2.2 = 0) : OkTok (nextR (c :: t)).1 (nextR (c :: t)).2.1 (nextR (c :: t)).2.2.1 := by
  cases hsg : signOf (c :: t) with
  | some xm =>
    obtain ⟨x, m⟩ := xm
    obtain ⟨s, hs, hp, rfl⟩ := signOf_len _ _ _ hsg
    rw [nextR_sign _ _ _ hsg]
    exact .inr (.inr (.inr (.inr (.inr ⟨⟨s, hs⟩, rfl, rfl⟩))))
  | none =>
    have ok := nextR_ok c t hk
    have hN := nextR_cons c t hsg
    rw [hN] at he ok ⊢
    split at he
    · exact absurd (show (3 : Int) = 0 from he) (by decide)
    rename_i n1
    split at he
    · rename_i n2
      rw [if_neg n1, if_pos n2]
      exact .inr (.inl ⟨rfl, rfl⟩)
    rename_i n2
    split at he
    · rename_i n3
      rw [if_neg n1, if_neg n2, if_pos n3]
      have : (hexedG t).2.2.2.2 = 0 → (hexedG t).1 = 4 ∧ (hexedG t).2.1 = 0 := by
        unfold hexedG
        split
        · split
          · exact fun _ => ⟨rfl, rfl⟩
          · exact fun h => absurd (show (1 : Int) = 0 from h) (by decide)
        · exact fun h => absurd (show (2 : Int) = 0 from h) (by decide)
      obtain ⟨a, b⟩ := this he
      exact .inr (.inr (.inr (.inl ⟨a, b⟩)))
    rename_i n3
    split at he
    · rename_i n4
      rw [if_neg n1, if_neg n2, if_neg n3, if_pos n4]
      have : (strungG t).2.2.2.2 = 0 → (strungG t).1 = 5 ∧ (strungG t).2.1 = 0 := by
        unfold strungG
        split
        · exact fun _ => ⟨rfl, rfl⟩
        · rename_i h; exact fun h2 => absurd h2 h
      obtain ⟨a, b⟩ := this he
      exact .inr (.inr (.inr (.inr (.inl ⟨a, b⟩))))
    rename_i n4
    rw [if_neg n1, if_neg n2, if_neg n3, if_neg n4] at ok ⊢
    have hlen := (ok.2 he).1
    unfold wordedG at he hlen ⊢
    split at he
    · rename_i h0
      rw [if_pos h0]
      have hr := lexInt_range _ h0
      exact .inl ⟨rfl, hr.1, hr.2, rfl⟩
    · rename_i h0
      split at he
      · rename_i h3
        rw [if_neg h0, if_pos h3] at hlen ⊢
        dsimp only at hlen
        refine .inr (.inr (.inl ⟨rfl, rfl, ?_, ?_, ?_⟩))
        · rw [ba_list]; intro e; rw [e] at hlen; simp at hlen
        · rw [ba_list, wordAt_zero]
          exact List.all_takeWhile
        · rw [ba_list]; exact h3
      · rename_i h3
        exact absurd he h0
end Go.Proofs.YtfdikkdbmlcjiaaGreatDoor.M
end
section
namespace Go.Proofs.YtfdikkdbmlcjiaaGreatDoor.M
open Go.RowKit Go.Proofs.YtfdikkdbmlcjiaaGreatDoorW.PrintWords
set_option linter.unusedVariables false
set_option linter.unusedSimpArgs false
theorem awake4_at : hornbooklaw04_awake.f 60 = some true := by decide +kernel
theorem awake4 {k : Nat} (hk : 60 ≤ k) : hornbooklaw04_awake.f k = some true := le_rounds (g := fun k => hornbooklaw04_awake.f k) (fun k => hornbooklaw04_awake.mono k) awake4_at hk
def showT (t : S31) : List UInt8 := showG t.f0 t.f2 t.f3
def OkT (t : S31) : Prop := OkTok t.f0 t.f2 t.f3
theorem hexBytes_bytes (s : ByteArray) : (hexBytes (bytesOf s)).length = 2 * s.size := by rw [hexBytes_length, bytesOf_length]
theorem show_len (kind n : Int) (s : ByteArray) (h : OkTok kind n s) : (showG kind n s).length ≤ 4 * s.size + 11 := by
  unfold showG
  rcases h with ⟨rfl, h0, h1, rfl⟩ | ⟨rfl, rfl⟩ | ⟨rfl, rfl, h0, hw, h3⟩ | ⟨rfl, rfl⟩ | ⟨rfl, rfl⟩ | ⟨⟨t, ht⟩, rfl, rfl⟩
  · rw [if_pos rfl]
    have := itoa_len n h0 h1
    omega
  · rw [if_neg (by decide), if_pos rfl, List.length_cons]
    have := writeBytes_length s.data.toList
    rw [← size_list] at this
    omega
  · rw [if_neg (by decide), if_neg (by decide), if_pos rfl, ← size_list]; omega
  · rw [if_neg (by decide), if_neg (by decide), if_neg (by decide), if_pos rfl, List.length_cons, List.length_append, List.length_singleton, hexBytes_bytes]; omega
  · rw [if_neg (by decide), if_neg (by decide), if_neg (by decide), if_neg (by decide), if_pos rfl, List.length_cons, List.length_append, List.length_singleton]
    have := quoteBytes_length s.data.toList
    rw [← size_list] at this
    omega
  · obtain ⟨e1, n1, n2, n3, n4, n5⟩ := signText_eq ht
    rw [if_neg n1, if_neg n2, if_neg n3, if_neg n4, if_neg n5, e1]
    rcases ht with ⟨rfl, rfl⟩ | ⟨rfl, rfl⟩ | ⟨rfl, rfl⟩ | ⟨rfl, rfl⟩ | ⟨rfl, rfl⟩ | ⟨rfl, rfl⟩ <;> simp
def tailG (l : List S31) : List UInt8 := Lib.joinTail [32] (l.map showT)
theorem tailG_cons (t : S31) (l : List S31) : tailG (t :: l) = 32 :: (showT t ++ tailG l) := by
  unfold tailG Lib.joinTail
  simp
/-- What all tokens of a text are like. -/
theorem allG_like : ∀ (n p : Nat) (r : List UInt8), (allG n p r).1.length ≤ r.length ∧ (tailG (allG n p r).1).length ≤ 16 * r.length ∧ ∀ t ∈ (allG n p r).1, OkT t ∧ t.f3.size ≤ r.length
  | 0, p, r => by rw [allG]; exact ⟨Nat.zero_le _, Nat.zero_le _, fun t h => by cases h⟩
  | n + 1, p, r => by
    by_cases h : skipG false r = r.length
    · rw [allG_end _ _ _ h]; exact ⟨Nat.zero_le _, Nat.zero_le _, fun t h => by cases h⟩
    obtain ⟨c, t, hd, hz, hlen⟩ := drop_skip r h
    have ok := nextR_ok c t hz
    have tk := nextR_tok c t hz
    generalize hx : nextR (c :: t) = x at ok tk
    by_cases he : x.2.2.2.2 = 0
    · obtain ⟨o1, o2, o3, o4⟩ := ok.2 he
      have ok1 := ok.1
      rw [List.length_cons] at ok1
      have tk2 := tk he
      obtain ⟨i1, i2, i3⟩ := allG_like n (p + skipG false r + x.2.2.2.1) ((c :: t).drop x.2.2.2.1)
      rw [List.length_drop, List.length_cons] at i1 i2 i3
      rw [allG_tok n p r (c :: t) x _ h hd hx he rfl]
      split
      · have hsl := show_len _ _ _ tk2
        refine ⟨?_, ?_, ?_⟩
        · show (_ :: _).length ≤ _
          rw [List.length_cons]; omega
        · show (tailG (_ :: _)).length ≤ _
          rw [tailG_cons, List.length_cons, List.length_append]
          unfold showT
          dsimp only
          omega
        · intro u hu
          rcases List.mem_cons.1 hu with rfl | hu
          · exact ⟨tk2, by dsimp only; omega⟩
          · have := i3 u hu
            exact ⟨this.1, by omega⟩
      · exact ⟨Nat.zero_le _, Nat.zero_le _, fun t h => by cases h⟩
    · rw [allG_err n p r (c :: t) x h hd hx he]; exact ⟨Nat.zero_le _, Nat.zero_le _, fun t h => by cases h⟩
end Go.Proofs.YtfdikkdbmlcjiaaGreatDoor.M
end
section
namespace Go.Proofs.YtfdikkdbmlcjiaaGreatDoor.M
open Go.RowKit Go.Proofs.YtfdikkdbmlcjiaaGreatDoorW.PrintWords
set_option linter.unusedVariables false
set_option linter.unusedSimpArgs false
theorem cut_at (t : List UInt8) (h : 62 ∈ t) : ∃ w r, t = w ++ 62 :: r ∧ (∀ c ∈ w, c ≠ 62) := by
  induction t with
  | nil => cases h
  | cons c t ih =>
    by_cases hc : c = 62
    · exact ⟨[], t, by rw [hc]; rfl, fun c h => by cases h⟩
    · have : 62 ∈ t := by
        rcases List.mem_cons.1 h with e | e
        · exact absurd e.symm hc
        · exact e
      obtain ⟨w, r, e, hw⟩ := ih this
      exact ⟨c :: w, r, by rw [e]; rfl, fun d hd => by
        rcases List.mem_cons.1 hd with rfl | hd
        · exact hc
        · exact hw d hd⟩
theorem hexed_of (w r : List UInt8) (hw : ∀ c ∈ w, c ≠ 62) : hexedG (w ++ 62 :: r) = if (unhG [] none w).1 = 0 then (4, 0, strOfNums (unhG [] none w).2.1, w.length + 2, 0) else nxErr (1 + (w.length - (unhG [] none w).2.2.length)) 1 := by
  have hm : (62 : UInt8) ∈ w ++ 62 :: r := by simp
  have hc := cut_gt (w ++ 62 :: r)
  rw [if_pos hm, take_no _ _ hw] at hc
  unfold hexedG
  rw [hc]
  dsimp only
  rw [if_pos rfl]
theorem hexed_no (t : List UInt8) (h : 62 ∉ t) : hexedG t = nxErr (t.length + 1) 2 := by
  have hc := cut_gt t
  rw [if_neg h] at hc
  unfold hexedG
  rw [hc]
  dsimp only
  rw [if_neg (by decide)]
theorem strung_err (t : List UInt8) : (strungG t).2.2.2.2 = (strG (t.length + 1) 1 [] t).1 := by
  unfold strungG
  split
  · rename_i h; rw [h]
  · rfl
theorem strung_len (t : List UInt8) : (strungG t).2.2.2.1 = t.length + 1 - (strG (t.length + 1) 1 [] t).2.2.length := by
  unfold strungG
  split <;> rfl
theorem lexInt_kinds (l : List UInt8) : (lexInt l).2 = 0 ∨ (lexInt l).2 = 3 ∨ (lexInt l).2 = 4 := by
  unfold lexInt
  split
  · split
    · exact .inl rfl
    · exact .inr (.inr rfl)
  · exact .inr (.inl rfl)
theorem all_at : ∀ (n p : Nat) (r : List UInt8), p ≤ (allG n p r).2.1 ∧ (allG n p r).2.1 ≤ p + r.length
  | 0, p, r => by rw [allG]; dsimp only; omega
  | n + 1, p, r => by
    by_cases h : skipG false r = r.length
    · rw [allG_end _ _ _ h]; dsimp only; omega
    obtain ⟨c, t, hd, hz, hlen⟩ := drop_skip r h
    have ok := nextR_ok c t hz
    generalize hx : nextR (c :: t) = x at ok
    have ok1 := ok.1
    rw [List.length_cons] at ok1
    by_cases he : x.2.2.2.2 = 0
    · have ih := all_at n (p + skipG false r + x.2.2.2.1) ((c :: t).drop x.2.2.2.1)
      rw [List.length_drop, List.length_cons] at ih
      rw [allG_tok n p r (c :: t) x _ h hd hx he rfl]
      split <;> (dsimp only; omega)
    · rw [allG_err n p r (c :: t) x h hd hx he]
      dsimp only; omega
end Go.Proofs.YtfdikkdbmlcjiaaGreatDoor.M
end
section
namespace Go.Proofs.YtfdikkdbmlcjiaaGreatDoor.M
open Go.RowKit Go.Proofs.YtfdikkdbmlcjiaaGreatDoorW.PrintWords
set_option linter.unusedVariables false
set_option linter.unusedSimpArgs false
theorem strG_short : ∀ (n deep : Nat) (out t : List UInt8), (strG n deep out t).1 = 2 → (strG n deep out t).2.2 = []
  | 0, _, _, _ => fun _ => rfl
  | _ + 1, _, _, [] => fun _ => rfl
  | n + 1, deep, out, c :: t => by
    have ih := strG_short n
    rw [strG]
    split
    · split
      · exact fun _ => rfl
      · exact ih _ _ _
    · split
      · exact fun h => absurd (show (0 : Int) = 2 from h) (by decide)
      · split
        · exact fun h => absurd (show (5 : Int) = 2 from h) (by decide)
        · split
          · exact ih _ _ _
          · exact ih _ _ _
theorem next_two (c : UInt8) (t : List UInt8) (h : (nextR (c :: t)).2.2.2.2 = 2) : (nextR (c :: t)).2.2.2.1 = t.length + 1 := by
  cases hsg : signOf (c :: t) with
  | some xm =>
    obtain ⟨x, l⟩ := xm
    rw [nextR_sign _ _ _ hsg] at h
    exact absurd (show (0 : Int) = 2 from h) (by decide)
  | none =>
    rw [nextR_cons c t hsg] at h ⊢
    by_cases n1 : c = 41 ∨ c = 62
    · rw [if_pos n1] at h; exact absurd (show (3 : Int) = 2 from h) (by decide)
    rw [if_neg n1] at h ⊢
    by_cases n2 : c = 47
    · rw [if_pos n2] at h; exact absurd (show (0 : Int) = 2 from h) (by decide)
    rw [if_neg n2] at h ⊢
    by_cases n3 : c = 60
    · rw [if_pos n3] at h ⊢
      by_cases hm : 62 ∈ t
      · obtain ⟨w, r, rfl, hw⟩ := cut_at t hm
        rw [hexed_of w r hw] at h
        split at h
        · exact absurd (show (0 : Int) = 2 from h) (by decide)
        · exact absurd (show (1 : Int) = 2 from h) (by decide)
      · rw [hexed_no t hm]; rfl
    rw [if_neg n3] at h ⊢
    by_cases n4 : c = 40
    · rw [if_pos n4] at h ⊢
      rw [strung_err] at h
      rw [strung_len, strG_short _ _ _ _ h]
      rfl
    rw [if_neg n4] at h ⊢
    unfold wordedG at h
    rcases lexInt_kinds (wordAt (c :: t) 0) with e | e | e
    · rw [if_pos e] at h; exact absurd (show (0 : Int) = 2 from h) (by decide)
    · rw [if_neg (by rw [e]; decide), if_pos e] at h; exact absurd (show (0 : Int) = 2 from h) (by decide)
    · rw [if_neg (by rw [e]; decide), if_neg (by rw [e]; decide), e] at h; exact absurd (show (4 : Int) = 2 from h) (by decide)
/-- Where all is read, or too short, the place is the end. -/
theorem all_end : ∀ (n p : Nat) (r : List UInt8), r.length < n → (allG n p r).2.2 = 0 ∨ (allG n p r).2.2 = 2 → (allG n p r).2.1 = p + r.length
  | 0, p, r => by intro h; omega
  | n + 1, p, r => by
    intro hn
    by_cases h : skipG false r = r.length
    · rw [allG_end _ _ _ h]; exact fun _ => rfl
    obtain ⟨c, t, hd, hz, hlen⟩ := drop_skip r h
    have ok := nextR_ok c t hz
    have h2 := next_two c t
    generalize hx : nextR (c :: t) = x at ok h2
    have ok1 := ok.1
    rw [List.length_cons] at ok1
    by_cases he : x.2.2.2.2 = 0
    · obtain ⟨o1, o2, o3, o4⟩ := ok.2 he
      have ih := all_end n (p + skipG false r + x.2.2.2.1) ((c :: t).drop x.2.2.2.1) (by rw [List.length_drop, List.length_cons]; omega)
      rw [allG_tok n p r (c :: t) x _ h hd hx he rfl]
      rw [List.length_drop, List.length_cons] at ih
      split
      · intro hh; have := ih hh; dsimp only at this ⊢; omega
      · intro hh; have := ih hh; dsimp only at this ⊢; omega
    · rw [allG_err n p r (c :: t) x h hd hx he]
      dsimp only
      rintro (e | e)
      · exact absurd e he
      · have := h2 e; omega
/-- Tokens of a text stand one behind the other, from a place on. -/
def PlaceL (s : ByteArray) : Nat → List S31 → Prop
  | _, [] => True
  | last, t :: l => ∃ p next : Nat, t.f1 = (p : Int) ∧ last ≤ p ∧ (∃ h : p < s.size, clsOf (s.data.toList[p]'(by simpa using h)).toNat ≠ 1) ∧ 1 ≤ t.f0 ∧ t.f0 ≤ 11 ∧ nextA s (p : Int) = (t.f0, t.f1, t.f2, t.f3, (next : Int), 0) ∧ p < next ∧ PlaceL s next l
theorem all_places (s : ByteArray) : ∀ (n i : Nat), i ≤ s.size → s.size - i < n → (allG n i (s.data.toList.drop i)).2.2 = 0 → PlaceL s i (allG n i (s.data.toList.drop i)).1
  | 0, i => by intro _ h; omega
  | n + 1, i => by
    intro hi hn
    have hdl : (s.data.toList.drop i).length = s.size - i := by rw [List.length_drop, ← size_list]
    have hdd : ∀ m, (s.data.toList.drop i).drop m = s.data.toList.drop (i + m) := fun m => by rw [List.drop_drop]
    generalize hr : s.data.toList.drop i = r at hdl hdd
    by_cases h : skipG false r = r.length
    · rw [allG_end _ _ _ h]; exact fun _ => trivial
    obtain ⟨c, t, hd, hz, hlen⟩ := drop_skip r h
    have ok := nextR_ok c t hz
    have hz2 := skipG_zero c t hz
    generalize hx : nextR (c :: t) = x at ok
    have ok1 := ok.1
    rw [List.length_cons] at ok1
    by_cases he : x.2.2.2.2 = 0
    · obtain ⟨o1, o2, o3, o4⟩ := ok.2 he
      have hp := hdd (skipG false r)
      rw [hd] at hp
      have hplt : i + skipG false r < s.size := by omega
      have hrest : (c :: t).drop x.2.2.2.1 = s.data.toList.drop (i + skipG false r + x.2.2.2.1) := by rw [hp, List.drop_drop]
      have ih := all_places s n (i + skipG false r + x.2.2.2.1) (by omega) (by omega)
      rw [allG_tok n i r (c :: t) x _ h hd hx he rfl, hrest]
      split
      · rename_i hy
        intro _
        refine ⟨i + skipG false r, i + skipG false r + x.2.2.2.1, rfl, by omega, ⟨hplt, ?_⟩, o2, o3, ?_, by omega, ih hy⟩
        · have hL : i + skipG false r < s.data.toList.length := by rw [← size_list]; exact hplt
          have e := List.drop_eq_getElem_cons hL
          rw [← hp] at e
          injection e with e1 e2
          rw [← e1]
          have := hz2.2
          rw [beq_eq_false_iff_ne] at this
          exact this
        · have := nextA_at s (i + skipG false r) (by omega) (c :: t) hp.symm
          rw [hz, if_neg (by simp), List.drop_zero, hx, Nat.add_zero] at this
          rw [this]
          unfold nxAns
          rw [if_pos he]
      · intro hh; exact absurd hh (by assumption)
    · rw [allG_err n i r (c :: t) x h hd hx he]
      exact fun hh => absurd hh he
theorem rd_drop (l : List S31) (i : Nat) (t : S31) (r : List S31) (h : l.drop i = t :: r) : i < l.length ∧ rd_T31 l (i : Int) = t ∧ l.drop (i + 1) = r := by
  have hlt : i < l.length := by
    refine Nat.lt_of_not_le fun hge => ?_
    rw [List.drop_eq_nil_of_le hge] at h
    cases h
  have e := List.drop_eq_getElem_cons hlt
  rw [h] at e
  injection e with e1 e2
  refine ⟨hlt, ?_, e2.symm⟩
  unfold rd_T31
  rw [Int.toNat_natCast, List.getD_eq_getElem?_getD, List.getElem?_eq_getElem hlt, e1]
  rfl
theorem places_loop (s : ByteArray) (hs : s.size ≤ 60000) (l : List S31) (hl : l.length ≤ 60000) : ∀ (l' : List S31) (i last k : Nat), l.drop i = l' → i ≤ l.length → PlaceL s last l' → 2 * l'.length + 2 * s.size + 20 ≤ k →
    hornbooklaw04_TokPlaces.l0 k s true l (last : Int) (i : Int) = some true
  | [], i, last, k => by
    intro hd hi _ hk
    obtain ⟨k, rfl⟩ : ∃ k', k = k' + 1 := ⟨k - 1, by omega⟩
    have : l.length ≤ i := by
      have := congrArg List.length hd
      rw [List.length_drop, List.length_nil] at this
      omega
    rw [hornbooklaw04_TokPlaces.l0, if_neg (by omega)]
  | t :: r, i, last, k => by
    intro hd hi hP hk
    obtain ⟨k, rfl⟩ : ∃ k', k = k' + 2 := ⟨k - 2, by omega⟩
    rw [List.length_cons] at hk
    obtain ⟨hlt, hrd, hdr⟩ := rd_drop l i t r hd
    obtain ⟨p, next, e1, hp1, ⟨hp2, hcls⟩, k1, k2, hnx, hpn, hP2⟩ := hP
    have hc := cls_get s p hp2 (k := k + 1) (by omega)
    rw [hornbooklaw04_TokPlaces.l0, if_pos (by omega), if_pos (by omega), hrd, e1, if_neg (by omega), if_neg (by omega), if_pos (by omega), if_pos (by omega), hc, Option.bind_some, if_neg hcls, if_neg (by omega), decide_eq_false (show ¬ t.f0 > 11 by omega),
      hornbooklaw04_TokPlaces.j2, if_neg (by decide), next_eq s _ (by omega) (by omega), Option.bind_some, hnx, hrd]
    dsimp only
    rw [if_pos rfl, if_pos (by omega), if_pos (by omega), if_neg (by simp), if_neg (by omega), wrap_small (by omega) (by omega)]
    have := places_loop s hs l hl r (i + 1) next k hdr (by omega) hP2 (by omega)
    rw [show (i : Int) + 1 = ((i + 1 : Nat) : Int) by omega]
    exact this
theorem TokPlaces : hornbooklaw04_TokPlaces.Pure := by
  intro a0 h0
  obtain ⟨k, hk⟩ : ∃ k : Nat, 100000 ≤ k := ⟨100000, Nat.le_refl _⟩
  refine ⟨k + 1, ?_⟩
  unfold hornbooklaw04_TokPlaces.f
  rw [awake4 (by omega), Option.bind_some]
  by_cases hs : (a0.size : Int) > 600
  · rw [if_pos hs]
  rw [if_neg hs, all_eq a0 (by omega) (by omega), Option.bind_some]
  have hat := all_at (a0.size + 1) 0 a0.data.toList
  have hend := all_end (a0.size + 1) 0 a0.data.toList (by rw [← size_list]; omega)
  have hpl := all_places a0 (a0.size + 1) 0 (by omega) (by omega)
  have hlk := (allG_like (a0.size + 1) 0 a0.data.toList).1
  rw [List.drop_zero] at hpl
  rw [← size_list] at hat hend hlk
  generalize allG (a0.size + 1) 0 a0.data.toList = y at hat hend hpl hlk
  obtain ⟨l, p, e⟩ := y
  dsimp only at hat hend hpl hlk
  have nilc : hornbooklaw04_TokPlaces.j0 (k + 1) a0 true [] false = some true := by
    rw [hornbooklaw04_TokPlaces.j0, if_neg (by decide)]
    exact places_loop a0 (by omega) [] (by simp) [] 0 0 k rfl (by simp) trivial (by simp; omega)
  unfold allOut
  dsimp only
  by_cases he : e = 0
  · subst he
    have hp := hend (.inl rfl)
    rw [if_pos rfl]
    dsimp only
    rw [if_neg (by omega), if_neg (by omega), if_pos rfl, if_pos (by omega), if_neg (by decide), List.nil_append, hornbooklaw04_TokPlaces.j0, if_neg (by decide)]
    exact places_loop a0 (by omega) l (by omega) l 0 0 k rfl (by omega) (hpl rfl) (by omega)
  · rw [if_neg he]
    dsimp only
    rw [if_neg (by omega), if_neg (by omega), if_neg he]
    by_cases h2 : e = 2
    · have hp := hend (.inr h2)
      rw [if_pos h2, show ((p : Int) != (a0.size : Int)) = false from bne_eq_false_iff_eq.2 (by omega)]
      exact nilc
    · rw [if_neg h2]
      exact nilc
end Go.Proofs.YtfdikkdbmlcjiaaGreatDoor.M
end
section
/- Of all tokens of a text each stands behind the one ahead, where a byte stands that is no blank, and the next one from its place on is it; an error's place is within the text, or its end; for texts of at most 600 bytes. -/
namespace Go.Proofs.YtfdikkdbmlcjiaaGreatDoor.tokPlaces
open Go Go.ChangeShapes Go.WideShapes Go.ChangeAt Go.RowKit
open Go.ChangeMaps (open_string shut_string)
set_option linter.unusedVariables false
theorem own : ownKnob Tryz.prog.godebug = none := by kernel_rfl
set_option maxRecDepth 100000 in
theorem lifted (os : Os) (started : os.Started) (H : Type) (enc : TypeId × Value → H) :
    ReturnsInHanded {} Tryz.checked os 4 .any (fun w args => (Rows.tokPlacesSpec.pre enc Tryz.prog Tryz.f4 Rows.tokPlacesRow.domain false w args ∧ laidMetH Tryz.prog Rows.tokPlacesRow.laid w) ∧ sizedMet enc Tryz.prog Tryz.f4 (OpenSpec.ofChange Rows.tokPlacesSpec) false w args)
      (Rows.tokPlacesSpec.post enc Tryz.prog Tryz.f4 false true false false) := by
  refine M.returns_both (C := Tryz.checked) (X := fun w _ => laidMetH Tryz.prog Rows.tokPlacesRow.laid w) (fun _ _ _ hh h => h.of_heap hh) own started (by kernel_rfl) Tryz.func4
    (ChangeSpec.witness_shaped (enc := enc) (C := Tryz.checked) (os := os) (X := fun w _ => laidMetH Tryz.prog Rows.tokPlacesRow.laid w) false (World.laidAll Tryz.prog os Rows.tokPlacesRow.laid) #[.string ByteArray.empty] 8 (World.laidAll_os _ _ _)
      (World.shaped_of_ZipB (by kernel_rfl) (by kernel_rfl)) (by kernel_rfl) (by kernel_rfl) (by kernel_rfl)
      (by rw [MakeChecks.laidMetH_plain _ _ _ (by kernel_rfl)]; exact laidMet_laidAll _ (by kernel_rfl) (by kernel_rfl))) ?_
  intro W base args ds gs before hval0 hW hcnd hsz0 hL hshape
  have hsz : (DataW.weightsEach Tryz.prog (Tryz.f4.params.toList ++ Rows.tokPlacesSpec.plain.varTypes Tryz.prog) (ds ++ gs)).all (· ≤ reachBytes) = true := hsz0
  have hval : ∀ (j : Nat) t v, Tryz.f4.params[j]? = some t → args[j]? = some v → Value.okWide Tryz.prog W .any base t v := hval0
  have hLp := hL
  rw [MakeChecks.laidMetH_plain _ _ _ (by kernel_rfl)] at hLp
  have hG : M.GW W := M.GW.of_mets (hLp.tail.tail.tail.tail) (hLp.tail.tail.tail.tail.tail) (hLp.tail.tail) hshape
  have hW' := hW
  obtain ⟨p, q, hA0, hV, rfl, hfz, hnd⟩ := hW
  have hA : DataW.TrodAll enc Tryz.prog W 0 (fun _ => true) true Tryz.f4.params.toList args.toList ds p := hA0
  rw [Tryz.params4] at hA hval hsz
  obtain ⟨v0, vs0, d0, ds0, p0, q0, hargs, rfl, rfl, h0, r0⟩ := trodAll_cons hA
  obtain ⟨rfl, rfl, rfl⟩ := trodAll_nil r0
  obtain rfl : args = #[v0] := by cases args; simp_all
  obtain ⟨rfl, rfl⟩ := trodVars_none hV
  obtain ⟨a0, rfl, rfl, rfl, y0⟩ := open_string Tryz.underlying9 (hval 0 9 v0 rfl rfl) h0
  have w0 : a0.size ≤ 140737488351232 := by
    have z := sized_string hsz (j := 0) (t := 9) rfl rfl
    rw [Array.length_toList] at z
    exact z
  clear hA0 hval0 hsz0 hsz
  refine (M.hornbooklaw04_TokPlaces.walk M.TokPlaces a0 W w0 hG).mono fun e W' ⟨he, bel⟩ => ?_
  subst he
  exact ⟨_, rfl, _, _, _, [], _, [], hW', trodAll_mk1 (shut_bool Tryz.underlying4 _), (trodAll_cons_mk (shut_string Tryz.underlying9 y0) trodAll_mk0), rfl, bel.frame _, fun h => by cases h⟩
theorem over : Rows.tokPlacesRow.holds Tryz.pinned (OpenSpec.ofChange Rows.tokPlacesSpec) :=
  OpenClaim.holds_of_wide 4 Tryz.f4 rfl rfl rfl rfl rfl rfl rfl ⟨rfl, rfl, rfl, rfl, rfl⟩ rfl rfl rfl rfl rfl (by kernel_rfl) Tryz.func4 (by kernel_rfl)
    (of_decide_eq_true (by kernel_rfl)) (by unfold Func.isWrapper; first | (rw [if_pos (by decide +kernel)]; kernel_rfl) | (rw [if_neg (by decide +kernel)]; exact ⟨rfl, rfl⟩))
    (fun os started H enc _ => lifted os started H enc)
theorem proved : Rows.TokPlacesSaid := over
theorem card : Rows.TokPlacesCardSaid :=
  Claim7.holds_tied_plain_at .later [] [.data, .data, .data, .data, .sentinel, .sentinel, .pinned] true (true, "7d2f2c49f26663f233dbc861660cac6b02df47310ed9da4de6c3ca3d616622b4") true
    proved (fun _ h => by cases h) (by kernel_rfl) (fun _ h => by cases h) tokPlaces_row_tie rfl ⟨rfl, rfl⟩ (by kernel_rfl) rfl
    (fun f fn hf hfn => by
      obtain rfl : f = 4 := Option.some.inj ((show Tryz.prog.funcNamed "hornbook/hornbooklaw04.TokPlaces" = some 4 by kernel_rfl).symm.trans hf) |>.symm
      obtain rfl : fn = Tryz.f4 := (Option.some.inj (Tryz.func4.symm.trans hfn)).symm
      exact ⟨by kernel_rfl, fun j t ht => by
        rw [Tryz.params4] at ht
        have hm : t ∈ [9] := by simpa using Array.mem_of_getElem? ht
        have hall : ([9].all fun u => !Tryz.prog.wantsStandIn u) = true := by kernel_rfl
        exact (show Tryz.prog.wantsStandIn t = false by simpa using List.all_eq_true.1 hall t hm)⟩)
    (by kernel_rfl)
end Go.Proofs.YtfdikkdbmlcjiaaGreatDoor.tokPlaces
namespace Go.Proofs.YtfdikkdbmlcjiaaGreatDoor
/-- The statement, under a short name, for the claim. -/
theorem tokPlaces_holds : Rows.TokPlacesCardSaid := tokPlaces.card
#print axioms tokPlaces_holds
end Go.Proofs.YtfdikkdbmlcjiaaGreatDoor
end
