/- For every row of entries, what DiffErrors says holds: an error of entries over names of all bytes is told by its place. -/
/- Packed by this session's program hbpack.py out of this claim's own texts (Q4, Wr, Db, Dc, PureDiffErrors, Op, LawDiffErrors): the same declarations, without those that the claim does not use. -/
import Derived.Test.YtdcldaknmenklaaGreatDoorPkDiffErrors5
import Derived.HandedShaped
import Derived.ProofKit
import Derived.LaidMore
import Derived.Lay
import Derived.Stop.Joined
import Derived.Shelf.Vars
import Derived.Stop.LaidErr
import Derived.Test.YtdcldaknmenklaaGreatDoorRows
import Derived.Deep.Strs
import Derived.SizedLaws
import Derived.WalkKit
import Derived.OpenShut
import Derived.ShutString
import Derived.ChangeOld
import Derived.Below
import Derived.SevenTiedAt
import Derived.Test.YtdcldaknmenklaaGreatDoorCards
import Derived.Test.YtdcldaknmenklaaGreatDoorTie
section
/- Laid by this session's program hbprint.py out of the translation: the function hornbook/hornbooklaw17.DiffErrors and its contract. -/
namespace Go.Proofs.YtdcldaknmenklaaGreatDoor.M
open Go.RowKit Go.Proofs.YtdcldaknmenklaaGreatDoorW.PrintWords Go.Proofs.YtdcldaknmenklaaGreatDoorW.PrintLast Go.Proofs.YtdcldaknmenklaaGreatDoorW.PrintMore
attribute [local go_sem] max2_int min2_int max_two min_two max_three min_three max_four min_four
set_option linter.unusedVariables false
set_option linter.unusedSimpArgs false
mutual
def hornbooklaw17_DiffErrors.l0 : Nat → List (S34) → Bool → Int → Int → Option (Bool)
  | 0, _, _, _, _ => none
  | k + 1, x0, x3, x5, x7 => if x7 < (x0.length : Int) then (if 0 ≤ x7 then (if (rd_T34 x0 x7).f0 = true then (if ((rd_T34 x0 x7).f1) < 0 then (some false) else (if ((rd_T34 x0 x7).f1) > 255 then (some false) else (hornbooklaw17_DiffErrors.l0 k x0 x3 x5 (wrap64 (x7 + 1))))) else (hornbooklaw17_DiffErrors.l0 k x0 x3 x5 (wrap64 (x7 + 1)))) else (none)) else (if x3 = true then (some (x5 == 0)) else (some false))
def hornbooklaw17_DiffErrors.j1 : Nat → List (S34) → Bool → Int → Int → Bool → Option (Bool)
  | 0, _, _, _, _, _ => none
  | k + 1, x0, x3, x5, x6, x86 => if x86 = true then (some false) else (if 0 ≤ x5 then (if x5 ≤ (x0.length : Int) then ((hornbooklaw17_ours.f k (x0.take (x5 : Int).toNat)).bind fun t342 => ((diff_Make.f k 1 t342).bind fun bt345 => (if 0 ≤ (wrap64 (x5 + 1)) then (if (wrap64 (x5 + 1)) ≤ (x0.length : Int) then ((hornbooklaw17_ours.f k (x0.take ((wrap64 (x5 + 1)) : Int).toNat)).bind fun t354 => ((diff_Make.f k 1 t354).bind fun bt357 => (if x3 = true then (if bt345.2.2 = 0 then (if bt357.2.2 = x6 then (some (bt357.2.1 == x5)) else (some false)) else (some false)) else (some false)))) else (none)) else (none)))) else (none)) else (none))
end
def hornbooklaw17_DiffErrors.f (k : Nat) (l0 : List (S34)) : Option (Bool) := (hornbooklaw17_awake.f k).bind fun t323 => ((hornbookref17_Few.f k l0).bind fun t324 => (if t324 = true then ((hornbooklaw17_ours.f k l0).bind fun t325 => ((diff_Make.f k 1 t325).bind fun bt328 => (if bt328.2.2 = 0 then (hornbooklaw17_DiffErrors.l0 k l0 t323 bt328.2.1 0) else (if bt328.2.1 < 0 then (hornbooklaw17_DiffErrors.j1 k l0 t323 bt328.2.1 bt328.2.2 true) else (if bt328.2.1 ≥ (l0.length : Int) then (hornbooklaw17_DiffErrors.j1 k l0 t323 bt328.2.1 bt328.2.2 true) else (if bt328.2.2 = 7 then (if 0 ≤ bt328.2.1 then (if bt328.2.1 < (l0.length : Int) then (if (rd_T34 l0 bt328.2.1).f0 = true then (hornbooklaw17_DiffErrors.j1 k l0 t323 bt328.2.1 bt328.2.2 (bt328.2.2 != 7)) else (hornbooklaw17_DiffErrors.j1 k l0 t323 bt328.2.1 bt328.2.2 false)) else (none)) else (none)) else (if bt328.2.2 = 3 then (if 0 ≤ bt328.2.1 then (if bt328.2.1 < (l0.length : Int) then (if (rd_T34 l0 bt328.2.1).f0 = true then (hornbooklaw17_DiffErrors.j1 k l0 t323 bt328.2.1 bt328.2.2 (bt328.2.2 != 7)) else (hornbooklaw17_DiffErrors.j1 k l0 t323 bt328.2.1 bt328.2.2 false)) else (none)) else (none)) else (hornbooklaw17_DiffErrors.j1 k l0 t323 bt328.2.1 bt328.2.2 true)))))))) else (some t323)))
set_option maxHeartbeats 8000000 in
set_option maxRecDepth 100000 in
theorem hornbooklaw17_DiffErrors.calls (k : Nat) (A0 : Option Addr) (c0 : Nat) (l0 : List (S34)) (r : Bool) (w : World) (hG : GW w) (hr0 : Kd.C k34 w A0 l0.length l0) (hc0 : l0.length ≤ c0) (h : hornbooklaw17_DiffErrors.f k l0 = some r) :
    Calls Tryz.prog 4 #[.slice A0 l0.length c0] w fun e w' => e = .returned (.bool r) ∧ Below w.heap.size w w' := by
  have HR0 := Aside0.mk hr0
  have HC0 := Aside0.mk hc0
  clear hr0 hc0
  have HG := Aside0.mk hG
  clear hG
  have HB := Aside0.mk (Below.refl w.heap.size w)
  have H : ((hornbooklaw17_awake.f k).bind fun t323 => ((hornbookref17_Few.f k l0).bind fun t324 => (if t324 = true then ((hornbooklaw17_ours.f k l0).bind fun t325 => ((diff_Make.f k 1 t325).bind fun bt328 => (if bt328.2.2 = 0 then (hornbooklaw17_DiffErrors.l0 k l0 t323 bt328.2.1 0) else (if bt328.2.1 < 0 then (hornbooklaw17_DiffErrors.j1 k l0 t323 bt328.2.1 bt328.2.2 true) else (if bt328.2.1 ≥ (l0.length : Int) then (hornbooklaw17_DiffErrors.j1 k l0 t323 bt328.2.1 bt328.2.2 true) else (if bt328.2.2 = 7 then (if 0 ≤ bt328.2.1 then (if bt328.2.1 < (l0.length : Int) then (if (rd_T34 l0 bt328.2.1).f0 = true then (hornbooklaw17_DiffErrors.j1 k l0 t323 bt328.2.1 bt328.2.2 (bt328.2.2 != 7)) else (hornbooklaw17_DiffErrors.j1 k l0 t323 bt328.2.1 bt328.2.2 false)) else (none)) else (none)) else (if bt328.2.2 = 3 then (if 0 ≤ bt328.2.1 then (if bt328.2.1 < (l0.length : Int) then (if (rd_T34 l0 bt328.2.1).f0 = true then (hornbooklaw17_DiffErrors.j1 k l0 t323 bt328.2.1 bt328.2.2 (bt328.2.2 != 7)) else (hornbooklaw17_DiffErrors.j1 k l0 t323 bt328.2.1 bt328.2.2 false)) else (none)) else (none)) else (hornbooklaw17_DiffErrors.j1 k l0 t323 bt328.2.1 bt328.2.2 true)))))))) else (some t323)))) = some r := h
  clear h
  replace H := Option.bind_eq_some_iff.mp H
  obtain ⟨t323, A20, H⟩ := H
  replace H : ((hornbookref17_Few.f k l0).bind fun t324 => (if t324 = true then ((hornbooklaw17_ours.f k l0).bind fun t325 => ((diff_Make.f k 1 t325).bind fun bt328 => (if bt328.2.2 = 0 then (hornbooklaw17_DiffErrors.l0 k l0 t323 bt328.2.1 0) else (if bt328.2.1 < 0 then (hornbooklaw17_DiffErrors.j1 k l0 t323 bt328.2.1 bt328.2.2 true) else (if bt328.2.1 ≥ (l0.length : Int) then (hornbooklaw17_DiffErrors.j1 k l0 t323 bt328.2.1 bt328.2.2 true) else (if bt328.2.2 = 7 then (if 0 ≤ bt328.2.1 then (if bt328.2.1 < (l0.length : Int) then (if (rd_T34 l0 bt328.2.1).f0 = true then (hornbooklaw17_DiffErrors.j1 k l0 t323 bt328.2.1 bt328.2.2 (bt328.2.2 != 7)) else (hornbooklaw17_DiffErrors.j1 k l0 t323 bt328.2.1 bt328.2.2 false)) else (none)) else (none)) else (if bt328.2.2 = 3 then (if 0 ≤ bt328.2.1 then (if bt328.2.1 < (l0.length : Int) then (if (rd_T34 l0 bt328.2.1).f0 = true then (hornbooklaw17_DiffErrors.j1 k l0 t323 bt328.2.1 bt328.2.2 (bt328.2.2 != 7)) else (hornbooklaw17_DiffErrors.j1 k l0 t323 bt328.2.1 bt328.2.2 false)) else (none)) else (none)) else (hornbooklaw17_DiffErrors.j1 k l0 t323 bt328.2.1 bt328.2.2 true)))))))) else (some t323))) = some r := H
  have A2 := Aside0.mk A20
  clear A20
  replace H := Option.bind_eq_some_iff.mp H
  obtain ⟨t324, A30, H⟩ := H
  replace H : (if t324 = true then ((hornbooklaw17_ours.f k l0).bind fun t325 => ((diff_Make.f k 1 t325).bind fun bt328 => (if bt328.2.2 = 0 then (hornbooklaw17_DiffErrors.l0 k l0 t323 bt328.2.1 0) else (if bt328.2.1 < 0 then (hornbooklaw17_DiffErrors.j1 k l0 t323 bt328.2.1 bt328.2.2 true) else (if bt328.2.1 ≥ (l0.length : Int) then (hornbooklaw17_DiffErrors.j1 k l0 t323 bt328.2.1 bt328.2.2 true) else (if bt328.2.2 = 7 then (if 0 ≤ bt328.2.1 then (if bt328.2.1 < (l0.length : Int) then (if (rd_T34 l0 bt328.2.1).f0 = true then (hornbooklaw17_DiffErrors.j1 k l0 t323 bt328.2.1 bt328.2.2 (bt328.2.2 != 7)) else (hornbooklaw17_DiffErrors.j1 k l0 t323 bt328.2.1 bt328.2.2 false)) else (none)) else (none)) else (if bt328.2.2 = 3 then (if 0 ≤ bt328.2.1 then (if bt328.2.1 < (l0.length : Int) then (if (rd_T34 l0 bt328.2.1).f0 = true then (hornbooklaw17_DiffErrors.j1 k l0 t323 bt328.2.1 bt328.2.2 (bt328.2.2 != 7)) else (hornbooklaw17_DiffErrors.j1 k l0 t323 bt328.2.1 bt328.2.2 false)) else (none)) else (none)) else (hornbooklaw17_DiffErrors.j1 k l0 t323 bt328.2.1 bt328.2.2 true)))))))) else (some t323)) = some r := H
  have A3 := Aside0.mk A30
  clear A30
  by_cases c4 : t324 = true
  · subst c4
    have H1 : ((hornbooklaw17_ours.f k l0).bind fun t325 => ((diff_Make.f k 1 t325).bind fun bt328 => (if bt328.2.2 = 0 then (hornbooklaw17_DiffErrors.l0 k l0 t323 bt328.2.1 0) else (if bt328.2.1 < 0 then (hornbooklaw17_DiffErrors.j1 k l0 t323 bt328.2.1 bt328.2.2 true) else (if bt328.2.1 ≥ (l0.length : Int) then (hornbooklaw17_DiffErrors.j1 k l0 t323 bt328.2.1 bt328.2.2 true) else (if bt328.2.2 = 7 then (if 0 ≤ bt328.2.1 then (if bt328.2.1 < (l0.length : Int) then (if (rd_T34 l0 bt328.2.1).f0 = true then (hornbooklaw17_DiffErrors.j1 k l0 t323 bt328.2.1 bt328.2.2 (bt328.2.2 != 7)) else (hornbooklaw17_DiffErrors.j1 k l0 t323 bt328.2.1 bt328.2.2 false)) else (none)) else (none)) else (if bt328.2.2 = 3 then (if 0 ≤ bt328.2.1 then (if bt328.2.1 < (l0.length : Int) then (if (rd_T34 l0 bt328.2.1).f0 = true then (hornbooklaw17_DiffErrors.j1 k l0 t323 bt328.2.1 bt328.2.2 (bt328.2.2 != 7)) else (hornbooklaw17_DiffErrors.j1 k l0 t323 bt328.2.1 bt328.2.2 false)) else (none)) else (none)) else (hornbooklaw17_DiffErrors.j1 k l0 t323 bt328.2.1 bt328.2.2 true)))))))) = some r := by rw [if_pos rfl] at H; exact H
    clear H
    have H := H1
    clear H1
    replace H := Option.bind_eq_some_iff.mp H
    obtain ⟨t325, A50, H⟩ := H
    replace H : ((diff_Make.f k 1 t325).bind fun bt328 => (if bt328.2.2 = 0 then (hornbooklaw17_DiffErrors.l0 k l0 t323 bt328.2.1 0) else (if bt328.2.1 < 0 then (hornbooklaw17_DiffErrors.j1 k l0 t323 bt328.2.1 bt328.2.2 true) else (if bt328.2.1 ≥ (l0.length : Int) then (hornbooklaw17_DiffErrors.j1 k l0 t323 bt328.2.1 bt328.2.2 true) else (if bt328.2.2 = 7 then (if 0 ≤ bt328.2.1 then (if bt328.2.1 < (l0.length : Int) then (if (rd_T34 l0 bt328.2.1).f0 = true then (hornbooklaw17_DiffErrors.j1 k l0 t323 bt328.2.1 bt328.2.2 (bt328.2.2 != 7)) else (hornbooklaw17_DiffErrors.j1 k l0 t323 bt328.2.1 bt328.2.2 false)) else (none)) else (none)) else (if bt328.2.2 = 3 then (if 0 ≤ bt328.2.1 then (if bt328.2.1 < (l0.length : Int) then (if (rd_T34 l0 bt328.2.1).f0 = true then (hornbooklaw17_DiffErrors.j1 k l0 t323 bt328.2.1 bt328.2.2 (bt328.2.2 != 7)) else (hornbooklaw17_DiffErrors.j1 k l0 t323 bt328.2.1 bt328.2.2 false)) else (none)) else (none)) else (hornbooklaw17_DiffErrors.j1 k l0 t323 bt328.2.1 bt328.2.2 true))))))) = some r := H
    have A5 := Aside0.mk A50
    clear A50
    replace H := Option.bind_eq_some_iff.mp H
    obtain ⟨⟨t328, t329, t330⟩, A60, H⟩ := H
    replace H : (if t330 = 0 then (hornbooklaw17_DiffErrors.l0 k l0 t323 t329 0) else (if t329 < 0 then (hornbooklaw17_DiffErrors.j1 k l0 t323 t329 t330 true) else (if t329 ≥ (l0.length : Int) then (hornbooklaw17_DiffErrors.j1 k l0 t323 t329 t330 true) else (if t330 = 7 then (if 0 ≤ t329 then (if t329 < (l0.length : Int) then (if (rd_T34 l0 t329).f0 = true then (hornbooklaw17_DiffErrors.j1 k l0 t323 t329 t330 (t330 != 7)) else (hornbooklaw17_DiffErrors.j1 k l0 t323 t329 t330 false)) else (none)) else (none)) else (if t330 = 3 then (if 0 ≤ t329 then (if t329 < (l0.length : Int) then (if (rd_T34 l0 t329).f0 = true then (hornbooklaw17_DiffErrors.j1 k l0 t323 t329 t330 (t330 != 7)) else (hornbooklaw17_DiffErrors.j1 k l0 t323 t329 t330 false)) else (none)) else (none)) else (hornbooklaw17_DiffErrors.j1 k l0 t323 t329 t330 true)))))) = some r := H
    have A6 := Aside0.mk A60
    clear A60
    by_cases c7 : t330 = 0
    · rw [if_pos c7] at H
      have c7b0 : (t330 == 0) = true := beq_iff_eq.mpr c7
      have c7b1 : (t330 != 0) = false := bne_eq_false_iff_eq.mpr c7
      clear c7
      have H' := Aside0.mk H
      clear H
      go_enter Tryz.func4, Tryz.ntmps4
      go_wp2_with (first | ((with_reducible refine gate_callee (f := 9) rfl ?_); refine goesL_ (some 14) rfl rfl Tryz.func9 (by kernel_rfl) rfl #[] rfl (by (try simp only [List.map_toArray, List.map_cons, List.map_nil]); first | done | rfl | (simp only [List.length_drop, List.length_take]; rfl)) ?_; (with_reducible refine (hornbooklaw17_awake.calls k  t323 _ ?side1 A2.out).mono ?_); (case side1 => exact GW.below (by repeat (first | (with_reducible first | exact HB.out | apply below_alloc | apply pw_below_drewN | apply below_drew1) | exact HB.out)) HG.out); rintro e w8 ⟨rfl, hb⟩; refine ⟨_, rfl, ?_⟩; have n0_ := Aside0.mk (below_step (by repeat (first | (with_reducible first | exact HB.out | apply below_alloc | apply pw_below_drewN | apply below_drew1) | exact HB.out)) hb); clear HB; have HB := n0_; clear n0_; (try clear hb); (try clear hb2); (try clear hk); (try clear hi)) | ((with_reducible refine gate_callee (f := 10) rfl ?_); refine goesL_ (some 16) rfl rfl Tryz.func10 (by kernel_rfl) rfl #[.slice A0 l0.length c0] rfl (by (try simp only [List.map_toArray, List.map_cons, List.map_nil]); first | done | rfl | (simp only [List.length_drop, List.length_take]; rfl)) ?_; (with_reducible refine (hornbookref17_Few.calls k _ _ l0 true _ ?side1 ?side2 A3.out).mono ?_); (case side1 => repeat (first | exact (Kd.C_below HR0.out HB.out) | (with_reducible refine Kd.C_alloc ?_ _) | (with_reducible refine Kd.C_drewN ?_ _) | (with_reducible refine Kd.C_drew ?_))); (case side2 => exact HC0.out); rintro e w' ⟨rfl, ⟨nd, rfl⟩⟩; refine ⟨_, rfl, ?_⟩) | ((with_reducible refine gate_callee (f := 12) rfl ?_); refine goesL_ (some 21) rfl rfl Tryz.func12 (by kernel_rfl) rfl #[.slice A0 l0.length c0] rfl (by (try simp only [List.map_toArray, List.map_cons, List.map_nil]); first | done | rfl | (simp only [List.length_drop, List.length_take]; rfl)) ?_; (with_reducible refine (hornbooklaw17_ours.calls k _ _ l0 t325 _ ?side1 ?side2 A5.out).mono ?_); (case side1 => repeat (first | exact (Kd.C_below HR0.out (by repeat (first | (with_reducible first | exact HB.out | apply below_alloc | apply pw_below_drewN | apply below_drew1) | exact HB.out))) | (with_reducible refine Kd.C_alloc ?_ _) | (with_reducible refine Kd.C_drewN ?_ _) | (with_reducible refine Kd.C_drew ?_))); (case side2 => exact HC0.out); rintro e w9 ⟨v326, rfl, ho0, hb⟩; refine ⟨_, rfl, ?_⟩; have n0_ := Aside0.mk (Kd.R_lower ho0 (below_size (by repeat (first | (with_reducible first | exact HB.out | apply below_alloc | apply pw_below_drewN | apply below_drew1) | exact HB.out)))); have n1_ := Aside0.mk (below_step (by repeat (first | (with_reducible first | exact HB.out | apply below_alloc | apply pw_below_drewN | apply below_drew1) | exact HB.out)) hb); clear HB; have HO327 := n0_; have HB := n1_; clear n0_ n1_; (try clear hb); (try clear hb2); (try clear hk); (try clear hi); (try clear ho0); obtain ⟨Ao10, co10, eo10⟩ := Kd.R_slice HO327.out; subst eo10) | ((with_reducible refine gate_callee (f := 11) rfl ?_); refine goesL_ (some 22) rfl rfl Tryz.func11 (by kernel_rfl) rfl #[.int .i64 1, .slice Ao10 t325.length co10] rfl (by (try simp only [List.map_toArray, List.map_cons, List.map_nil]); first | done | rfl | (simp only [List.length_drop, List.length_take]; rfl)) ?_; (with_reducible refine (diff_Make.calls k 1 _ _ t325 t328 t329 t330 _ ?side1 ?side2 ?side3 A6.out).mono ?_); (case side1 => exact GW.below (by repeat (first | (with_reducible first | exact HB.out | apply below_alloc | apply pw_below_drewN | apply below_drew1) | exact HB.out)) HG.out); (case side2 => repeat (first | exact (Kd.R_reads' HO327.out).2.2 | (with_reducible refine Kd.C_alloc ?_ _) | (with_reducible refine Kd.C_drewN ?_ _) | (with_reducible refine Kd.C_drew ?_))); (case side3 => exact (Kd.R_reads' HO327.out).2.1); rintro e w11 ⟨v331, rfl, ho0, hb⟩; refine ⟨_, rfl, ?_⟩; have n0_ := Aside0.mk (Kd.R_below (by (with_reducible repeat (first | apply Kd.R_alloc | apply Kd.R_drewN | apply Kd.R_drew)); exact HO327.out) hb); have n1_ := Aside0.mk (Kd.R_lower ho0 (below_size (by repeat (first | (with_reducible first | exact HB.out | apply below_alloc | apply pw_below_drewN | apply below_drew1) | exact HB.out)))); have n2_ := Aside0.mk (below_step (by repeat (first | (with_reducible first | exact HB.out | apply below_alloc | apply pw_below_drewN | apply below_drew1) | exact HB.out)) hb); clear HO327; clear HB; have HO327 := n0_; have HO332 := n1_; have HB := n2_; clear n0_ n1_ n2_; (try clear hb); (try clear hb2); (try clear hk); (try clear hi); (try clear ho0)))
      go_loopg [7] k (fun kq v7 w' => ∃ (x7_1 : Int), v7 = .int .i64 x7_1 ∧ Aside0 (hornbooklaw17_DiffErrors.l0 kq l0 t323 t329 x7_1 = some r) ∧ Aside0 (kq ≤ k) ∧ Aside0 (Below w.heap.size w w'))
      case atStart => exact ⟨(0), (by first | rfl | (simp; done) | (simp [*]; done)), H', ⟨Nat.le_refl _⟩, ⟨by repeat (first | (with_reducible first | exact HB.out | apply below_alloc | apply pw_below_drewN | apply below_drew1) | exact HB.out)⟩⟩
      case round =>
        clear H'
        try clear c1
        try clear p2
        try clear c4
        try clear c7
        try clear c7b0
        try clear c7b1
        try clear c9
        try clear c10
        try clear c11
        obtain ⟨x7_1, rfl, HA, HK1, HB⟩ := hrel
        cases gk with
        | zero => exact absurd HA.out (by simp [hornbooklaw17_DiffErrors.l0])
        | succ k1 =>
          have H := HA.out
          clear HA
          simp only [hornbooklaw17_DiffErrors.l0] at H
          by_cases c12 : x7_1 < (l0.length : Int)
          · rw [if_pos c12] at H
            have c12b0 : decide (x7_1 < (l0.length : Int)) = true := decide_eq_true c12
            clear c12
            by_cases c13 : 0 ≤ x7_1
            · rw [if_pos c13] at H
              have c13b0 : decide (0 ≤ x7_1) = true := decide_eq_true c13
              clear c13
              obtain ⟨bq14, hbq14⟩ : ∃ b_ : Bool, b_ = ((rd_T34 l0 x7_1).f0) := ⟨_, rfl⟩
              replace H : (if bq14 = true then (if ((rd_T34 l0 x7_1).f1) < 0 then (some false) else (if ((rd_T34 l0 x7_1).f1) > 255 then (some false) else (hornbooklaw17_DiffErrors.l0 k1 l0 t323 t329 (wrap64 (x7_1 + 1))))) else (hornbooklaw17_DiffErrors.l0 k1 l0 t323 t329 (wrap64 (x7_1 + 1)))) = some r := by rw [← hbq14] at H; exact H
              have Nbq14 := Aside0.mk hbq14
              clear hbq14
              by_cases c15 : bq14 = true
              · subst c15
                have H1 : (if ((rd_T34 l0 x7_1).f1) < 0 then (some false) else (if ((rd_T34 l0 x7_1).f1) > 255 then (some false) else (hornbooklaw17_DiffErrors.l0 k1 l0 t323 t329 (wrap64 (x7_1 + 1))))) = some r := by rw [if_pos rfl] at H; exact H
                clear H
                have H := H1
                clear H1
                by_cases c16 : ((rd_T34 l0 x7_1).f1) < 0
                · rw [if_pos c16] at H
                  have c16b0 : decide (((rd_T34 l0 x7_1).f1) < 0) = true := decide_eq_true c16
                  clear c16
                  obtain rfl := Option.some.inj H
                  have p333 : 0 ≤ (x7_1 : Int) := of_decide_eq_true (by first | (with_reducible assumption) | assumption)
                  have q333 : x7_1 < (l0.length : Int) := of_decide_eq_true (by first | (with_reducible assumption) | assumption)
                  obtain ⟨ad333, e333, hx333_0, hx333_1, hx333_2⟩ := at_T34 HR0.out x7_1 p333 q333
                  (try rw [← Nbq14.out] at hx333_0)
                  cases e333
                  replace hx333_0 := (HB.out.cell (World.block_lt_of_cell? w _ hx333_0)).trans hx333_0
                  replace hx333_1 := (HB.out.cell (World.block_lt_of_cell? w _ hx333_1)).trans hx333_1
                  replace hx333_2 := (HB.out.cell (World.block_lt_of_cell? w _ hx333_2)).trans hx333_2
                  replace p333 := eq_true p333
                  replace q333 := eq_true q333
                  have p334 : 0 ≤ (x7_1 : Int) := of_decide_eq_true (by first | (with_reducible assumption) | assumption)
                  have q334 : x7_1 < (l0.length : Int) := of_decide_eq_true (by first | (with_reducible assumption) | assumption)
                  obtain ⟨ad334, e334, hx334_0, hx334_1, hx334_2⟩ := at_T34 HR0.out x7_1 p334 q334
                  (try rw [← Nbq14.out] at hx334_0)
                  obtain rfl : ad333 = ad334 := (by injection e334)
                  replace hx334_0 := (HB.out.cell (World.block_lt_of_cell? w _ hx334_0)).trans hx334_0
                  replace hx334_1 := (HB.out.cell (World.block_lt_of_cell? w _ hx334_1)).trans hx334_1
                  replace hx334_2 := (HB.out.cell (World.block_lt_of_cell? w _ hx334_2)).trans hx334_2
                  replace p334 := eq_true p334
                  replace q334 := eq_true q334
                  go_wp2
                  go_ret
                  exact ⟨by first | rfl | (simp [errW_none, errW_some] <;> rfl) | (simp [*, errW_none, errW_some] <;> rfl), by repeat (first | (with_reducible first | exact HB.out | apply below_alloc | apply pw_below_drewN | apply below_drew1) | exact HB.out)⟩
                · rw [if_neg c16] at H
                  have c16b0 : decide (((rd_T34 l0 x7_1).f1) < 0) = false := decide_eq_false c16
                  clear c16
                  by_cases c17 : ((rd_T34 l0 x7_1).f1) > 255
                  · rw [if_pos c17] at H
                    have c17b0 : decide (255 < ((rd_T34 l0 x7_1).f1)) = true := decide_eq_true c17
                    clear c17
                    obtain rfl := Option.some.inj H
                    have p333 : 0 ≤ (x7_1 : Int) := of_decide_eq_true (by first | (with_reducible assumption) | assumption)
                    have q333 : x7_1 < (l0.length : Int) := of_decide_eq_true (by first | (with_reducible assumption) | assumption)
                    obtain ⟨ad333, e333, hx333_0, hx333_1, hx333_2⟩ := at_T34 HR0.out x7_1 p333 q333
                    (try rw [← Nbq14.out] at hx333_0)
                    cases e333
                    replace hx333_0 := (HB.out.cell (World.block_lt_of_cell? w _ hx333_0)).trans hx333_0
                    replace hx333_1 := (HB.out.cell (World.block_lt_of_cell? w _ hx333_1)).trans hx333_1
                    replace hx333_2 := (HB.out.cell (World.block_lt_of_cell? w _ hx333_2)).trans hx333_2
                    replace p333 := eq_true p333
                    replace q333 := eq_true q333
                    have p334 : 0 ≤ (x7_1 : Int) := of_decide_eq_true (by first | (with_reducible assumption) | assumption)
                    have q334 : x7_1 < (l0.length : Int) := of_decide_eq_true (by first | (with_reducible assumption) | assumption)
                    obtain ⟨ad334, e334, hx334_0, hx334_1, hx334_2⟩ := at_T34 HR0.out x7_1 p334 q334
                    (try rw [← Nbq14.out] at hx334_0)
                    obtain rfl : ad333 = ad334 := (by injection e334)
                    replace hx334_0 := (HB.out.cell (World.block_lt_of_cell? w _ hx334_0)).trans hx334_0
                    replace hx334_1 := (HB.out.cell (World.block_lt_of_cell? w _ hx334_1)).trans hx334_1
                    replace hx334_2 := (HB.out.cell (World.block_lt_of_cell? w _ hx334_2)).trans hx334_2
                    replace p334 := eq_true p334
                    replace q334 := eq_true q334
                    have p335 : 0 ≤ (x7_1 : Int) := of_decide_eq_true (by first | (with_reducible assumption) | assumption)
                    have q335 : x7_1 < (l0.length : Int) := of_decide_eq_true (by first | (with_reducible assumption) | assumption)
                    obtain ⟨ad335, e335, hx335_0, hx335_1, hx335_2⟩ := at_T34 HR0.out x7_1 p335 q335
                    (try rw [← Nbq14.out] at hx335_0)
                    obtain rfl : ad333 = ad335 := (by injection e335)
                    replace hx335_0 := (HB.out.cell (World.block_lt_of_cell? w _ hx335_0)).trans hx335_0
                    replace hx335_1 := (HB.out.cell (World.block_lt_of_cell? w _ hx335_1)).trans hx335_1
                    replace hx335_2 := (HB.out.cell (World.block_lt_of_cell? w _ hx335_2)).trans hx335_2
                    replace p335 := eq_true p335
                    replace q335 := eq_true q335
                    go_wp2
                    go_ret
                    exact ⟨by first | rfl | (simp [errW_none, errW_some] <;> rfl) | (simp [*, errW_none, errW_some] <;> rfl), by repeat (first | (with_reducible first | exact HB.out | apply below_alloc | apply pw_below_drewN | apply below_drew1) | exact HB.out)⟩
                  · rw [if_neg c17] at H
                    have c17b0 : decide (255 < ((rd_T34 l0 x7_1).f1)) = false := decide_eq_false c17
                    clear c17
                    have H' := Aside0.mk H
                    clear H
                    have p333 : 0 ≤ (x7_1 : Int) := of_decide_eq_true (by first | (with_reducible assumption) | assumption)
                    have q333 : x7_1 < (l0.length : Int) := of_decide_eq_true (by first | (with_reducible assumption) | assumption)
                    obtain ⟨ad333, e333, hx333_0, hx333_1, hx333_2⟩ := at_T34 HR0.out x7_1 p333 q333
                    (try rw [← Nbq14.out] at hx333_0)
                    cases e333
                    replace hx333_0 := (HB.out.cell (World.block_lt_of_cell? w _ hx333_0)).trans hx333_0
                    replace hx333_1 := (HB.out.cell (World.block_lt_of_cell? w _ hx333_1)).trans hx333_1
                    replace hx333_2 := (HB.out.cell (World.block_lt_of_cell? w _ hx333_2)).trans hx333_2
                    replace p333 := eq_true p333
                    replace q333 := eq_true q333
                    have p334 : 0 ≤ (x7_1 : Int) := of_decide_eq_true (by first | (with_reducible assumption) | assumption)
                    have q334 : x7_1 < (l0.length : Int) := of_decide_eq_true (by first | (with_reducible assumption) | assumption)
                    obtain ⟨ad334, e334, hx334_0, hx334_1, hx334_2⟩ := at_T34 HR0.out x7_1 p334 q334
                    (try rw [← Nbq14.out] at hx334_0)
                    obtain rfl : ad333 = ad334 := (by injection e334)
                    replace hx334_0 := (HB.out.cell (World.block_lt_of_cell? w _ hx334_0)).trans hx334_0
                    replace hx334_1 := (HB.out.cell (World.block_lt_of_cell? w _ hx334_1)).trans hx334_1
                    replace hx334_2 := (HB.out.cell (World.block_lt_of_cell? w _ hx334_2)).trans hx334_2
                    replace p334 := eq_true p334
                    replace q334 := eq_true q334
                    have p335 : 0 ≤ (x7_1 : Int) := of_decide_eq_true (by first | (with_reducible assumption) | assumption)
                    have q335 : x7_1 < (l0.length : Int) := of_decide_eq_true (by first | (with_reducible assumption) | assumption)
                    obtain ⟨ad335, e335, hx335_0, hx335_1, hx335_2⟩ := at_T34 HR0.out x7_1 p335 q335
                    (try rw [← Nbq14.out] at hx335_0)
                    obtain rfl : ad333 = ad335 := (by injection e335)
                    replace hx335_0 := (HB.out.cell (World.block_lt_of_cell? w _ hx335_0)).trans hx335_0
                    replace hx335_1 := (HB.out.cell (World.block_lt_of_cell? w _ hx335_1)).trans hx335_1
                    replace hx335_2 := (HB.out.cell (World.block_lt_of_cell? w _ hx335_2)).trans hx335_2
                    replace p335 := eq_true p335
                    replace q335 := eq_true q335
                    go_wp2
                    go_roundg k1
                    case measure => have := HK1.out; omega
                    case rel => exact ⟨(wrap64 (x7_1 + 1)), (by first | rfl | (simp; done) | (simp [*]; done)), H', ⟨by have := HK1.out; omega⟩, ⟨by repeat (first | (with_reducible first | exact HB.out | apply below_alloc | apply pw_below_drewN | apply below_drew1) | exact HB.out)⟩⟩
              · replace c15 := Bool.eq_false_iff.mpr c15
                subst c15
                have H1 : (hornbooklaw17_DiffErrors.l0 k1 l0 t323 t329 (wrap64 (x7_1 + 1))) = some r := by rw [if_neg (show ¬ (false = true) by decide)] at H; exact H
                clear H
                have H := H1
                clear H1
                have H' := Aside0.mk H
                clear H
                have p333 : 0 ≤ (x7_1 : Int) := of_decide_eq_true (by first | (with_reducible assumption) | assumption)
                have q333 : x7_1 < (l0.length : Int) := of_decide_eq_true (by first | (with_reducible assumption) | assumption)
                obtain ⟨ad333, e333, hx333_0, hx333_1, hx333_2⟩ := at_T34 HR0.out x7_1 p333 q333
                (try rw [← Nbq14.out] at hx333_0)
                cases e333
                replace hx333_0 := (HB.out.cell (World.block_lt_of_cell? w _ hx333_0)).trans hx333_0
                replace hx333_1 := (HB.out.cell (World.block_lt_of_cell? w _ hx333_1)).trans hx333_1
                replace hx333_2 := (HB.out.cell (World.block_lt_of_cell? w _ hx333_2)).trans hx333_2
                replace p333 := eq_true p333
                replace q333 := eq_true q333
                go_wp2
                go_roundg k1
                case measure => have := HK1.out; omega
                case rel => exact ⟨(wrap64 (x7_1 + 1)), (by first | rfl | (simp; done) | (simp [*]; done)), H', ⟨by have := HK1.out; omega⟩, ⟨by repeat (first | (with_reducible first | exact HB.out | apply below_alloc | apply pw_below_drewN | apply below_drew1) | exact HB.out)⟩⟩
            · rw [if_neg c13] at H
              exact absurd H (by simp)
          · rw [if_neg c12] at H
            have c12b0 : decide (x7_1 < (l0.length : Int)) = false := decide_eq_false c12
            clear c12
            by_cases c18 : t323 = true
            · subst c18
              have H1 : (some (t329 == 0)) = some r := by rw [if_pos rfl] at H; exact H
              clear H
              have H := H1
              clear H1
              obtain rfl := Option.some.inj H
              go_wp2
              go_ret
              exact ⟨by first | rfl | (simp [errW_none, errW_some] <;> rfl) | (simp [*, errW_none, errW_some] <;> rfl), by repeat (first | (with_reducible first | exact HB.out | apply below_alloc | apply pw_below_drewN | apply below_drew1) | exact HB.out)⟩
            · replace c18 := Bool.eq_false_iff.mpr c18
              subst c18
              have H1 : (some false) = some r := by rw [if_neg (show ¬ (false = true) by decide)] at H; exact H
              clear H
              have H := H1
              clear H1
              obtain rfl := Option.some.inj H
              go_wp2
              go_ret
              exact ⟨by first | rfl | (simp [errW_none, errW_some] <;> rfl) | (simp [*, errW_none, errW_some] <;> rfl), by repeat (first | (with_reducible first | exact HB.out | apply below_alloc | apply pw_below_drewN | apply below_drew1) | exact HB.out)⟩
    · rw [if_neg c7] at H
      have c7b0 : (t330 == 0) = false := beq_eq_false_iff_ne.mpr c7
      have c7b1 : (t330 != 0) = true := bne_iff_ne.mpr c7
      have HC19 := Aside0.mk H
      clear H
      go_enter Tryz.func4, Tryz.ntmps4
      go_upto_region 12 with (first | ((with_reducible refine gate_callee (f := 9) rfl ?_); refine goesL_ (some 14) rfl rfl Tryz.func9 (by kernel_rfl) rfl #[] rfl (by (try simp only [List.map_toArray, List.map_cons, List.map_nil]); first | done | rfl | (simp only [List.length_drop, List.length_take]; rfl)) ?_; (with_reducible refine (hornbooklaw17_awake.calls k  t323 _ ?side1 A2.out).mono ?_); (case side1 => exact GW.below (by repeat (first | (with_reducible first | exact HB.out | apply below_alloc | apply pw_below_drewN | apply below_drew1) | exact HB.out)) HG.out); rintro e w20 ⟨rfl, hb⟩; refine ⟨_, rfl, ?_⟩; have n0_ := Aside0.mk (below_step (by repeat (first | (with_reducible first | exact HB.out | apply below_alloc | apply pw_below_drewN | apply below_drew1) | exact HB.out)) hb); clear HB; have HB := n0_; clear n0_; (try clear hb); (try clear hb2); (try clear hk); (try clear hi)) | ((with_reducible refine gate_callee (f := 10) rfl ?_); refine goesL_ (some 16) rfl rfl Tryz.func10 (by kernel_rfl) rfl #[.slice A0 l0.length c0] rfl (by (try simp only [List.map_toArray, List.map_cons, List.map_nil]); first | done | rfl | (simp only [List.length_drop, List.length_take]; rfl)) ?_; (with_reducible refine (hornbookref17_Few.calls k _ _ l0 true _ ?side1 ?side2 A3.out).mono ?_); (case side1 => repeat (first | exact (Kd.C_below HR0.out HB.out) | (with_reducible refine Kd.C_alloc ?_ _) | (with_reducible refine Kd.C_drewN ?_ _) | (with_reducible refine Kd.C_drew ?_))); (case side2 => exact HC0.out); rintro e w' ⟨rfl, ⟨nd, rfl⟩⟩; refine ⟨_, rfl, ?_⟩) | ((with_reducible refine gate_callee (f := 12) rfl ?_); refine goesL_ (some 21) rfl rfl Tryz.func12 (by kernel_rfl) rfl #[.slice A0 l0.length c0] rfl (by (try simp only [List.map_toArray, List.map_cons, List.map_nil]); first | done | rfl | (simp only [List.length_drop, List.length_take]; rfl)) ?_; (with_reducible refine (hornbooklaw17_ours.calls k _ _ l0 t325 _ ?side1 ?side2 A5.out).mono ?_); (case side1 => repeat (first | exact (Kd.C_below HR0.out (by repeat (first | (with_reducible first | exact HB.out | apply below_alloc | apply pw_below_drewN | apply below_drew1) | exact HB.out))) | (with_reducible refine Kd.C_alloc ?_ _) | (with_reducible refine Kd.C_drewN ?_ _) | (with_reducible refine Kd.C_drew ?_))); (case side2 => exact HC0.out); rintro e w21 ⟨v326, rfl, ho0, hb⟩; refine ⟨_, rfl, ?_⟩; have n0_ := Aside0.mk (Kd.R_lower ho0 (below_size (by repeat (first | (with_reducible first | exact HB.out | apply below_alloc | apply pw_below_drewN | apply below_drew1) | exact HB.out)))); have n1_ := Aside0.mk (below_step (by repeat (first | (with_reducible first | exact HB.out | apply below_alloc | apply pw_below_drewN | apply below_drew1) | exact HB.out)) hb); clear HB; have HO327 := n0_; have HB := n1_; clear n0_ n1_; (try clear hb); (try clear hb2); (try clear hk); (try clear hi); (try clear ho0); obtain ⟨Ao22, co22, eo22⟩ := Kd.R_slice HO327.out; subst eo22) | ((with_reducible refine gate_callee (f := 11) rfl ?_); refine goesL_ (some 22) rfl rfl Tryz.func11 (by kernel_rfl) rfl #[.int .i64 1, .slice Ao22 t325.length co22] rfl (by (try simp only [List.map_toArray, List.map_cons, List.map_nil]); first | done | rfl | (simp only [List.length_drop, List.length_take]; rfl)) ?_; (with_reducible refine (diff_Make.calls k 1 _ _ t325 t328 t329 t330 _ ?side1 ?side2 ?side3 A6.out).mono ?_); (case side1 => exact GW.below (by repeat (first | (with_reducible first | exact HB.out | apply below_alloc | apply pw_below_drewN | apply below_drew1) | exact HB.out)) HG.out); (case side2 => repeat (first | exact (Kd.R_reads' HO327.out).2.2 | (with_reducible refine Kd.C_alloc ?_ _) | (with_reducible refine Kd.C_drewN ?_ _) | (with_reducible refine Kd.C_drew ?_))); (case side3 => exact (Kd.R_reads' HO327.out).2.1); rintro e w23 ⟨v331, rfl, ho0, hb⟩; refine ⟨_, rfl, ?_⟩; have n0_ := Aside0.mk (Kd.R_below (by (with_reducible repeat (first | apply Kd.R_alloc | apply Kd.R_drewN | apply Kd.R_drew)); exact HO327.out) hb); have n1_ := Aside0.mk (Kd.R_lower ho0 (below_size (by repeat (first | (with_reducible first | exact HB.out | apply below_alloc | apply pw_below_drewN | apply below_drew1) | exact HB.out)))); have n2_ := Aside0.mk (below_step (by repeat (first | (with_reducible first | exact HB.out | apply below_alloc | apply pw_below_drewN | apply below_drew1) | exact HB.out)) hb); clear HO327; clear HB; have HO327 := n0_; have HO332 := n1_; have HB := n2_; clear n0_ n1_ n2_; (try clear hb); (try clear hb2); (try clear hk); (try clear hi); (try clear ho0)))
      (try simp only [Act.put, List.setIfInBounds_toArray, List.set_cons_zero, List.set_cons_succ])
      go_cut [86] (fun v86 wc => ∃ (kq : Nat) (x86_18 : Bool), v86 = .bool x86_18 ∧ Aside0 (hornbooklaw17_DiffErrors.j1 kq l0 t323 t329 t330 x86_18 = some r) ∧ Aside0 (kq ≤ k) ∧ Aside0 (Below w.heap.size w wc))
      case first =>
        have H := HC19.out
        clear HC19
        by_cases c24 : t329 < 0
        · rw [if_pos c24] at H
          have c24b0 : decide (t329 < 0) = true := decide_eq_true c24
          clear c24
          (first | rw [c24b0] | (simp only [i64_w, i32_w]; rw [c24b0]) | skip)
          have H' := Aside0.mk H
          clear H
          go_wp2
          go_meet
          case rel => exact ⟨_, (true), (by first | rfl | (simp; done) | (simp [*]; done)), H', ⟨by first | omega | exact Nat.le_refl _⟩, ⟨by repeat (first | (with_reducible first | exact HB.out | apply below_alloc | apply pw_below_drewN | apply below_drew1) | exact HB.out)⟩⟩
        · rw [if_neg c24] at H
          have c24b0 : decide (t329 < 0) = false := decide_eq_false c24
          clear c24
          (first | rw [c24b0] | (simp only [i64_w, i32_w]; rw [c24b0]) | skip)
          by_cases c25 : t329 ≥ (l0.length : Int)
          · rw [if_pos c25] at H
            have c25b0 : decide ((l0.length : Int) ≤ t329) = true := decide_eq_true c25
            clear c25
            have H' := Aside0.mk H
            clear H
            go_wp2
            go_meet
            case rel => exact ⟨_, (true), (by first | rfl | (simp; done) | (simp [*]; done)), H', ⟨by first | omega | exact Nat.le_refl _⟩, ⟨by repeat (first | (with_reducible first | exact HB.out | apply below_alloc | apply pw_below_drewN | apply below_drew1) | exact HB.out)⟩⟩
          · rw [if_neg c25] at H
            have c25b0 : decide ((l0.length : Int) ≤ t329) = false := decide_eq_false c25
            clear c25
            by_cases c26 : t330 = 7
            · rw [if_pos c26] at H
              have c26b0 : (t330 == 7) = true := beq_iff_eq.mpr c26
              have c26b1 : (t330 != 7) = false := bne_eq_false_iff_eq.mpr c26
              clear c26
              by_cases c27 : 0 ≤ t329
              · rw [if_pos c27] at H
                have c27b0 : decide (0 ≤ t329) = true := decide_eq_true c27
                clear c27
                by_cases c28 : t329 < (l0.length : Int)
                · rw [if_pos c28] at H
                  have c28b0 : decide (t329 < (l0.length : Int)) = true := decide_eq_true c28
                  clear c28
                  obtain ⟨bq29, hbq29⟩ : ∃ b_ : Bool, b_ = ((rd_T34 l0 t329).f0) := ⟨_, rfl⟩
                  replace H : (if bq29 = true then (hornbooklaw17_DiffErrors.j1 k l0 t323 t329 t330 (t330 != 7)) else (hornbooklaw17_DiffErrors.j1 k l0 t323 t329 t330 false)) = some r := by rw [← hbq29] at H; exact H
                  have Nbq29 := Aside0.mk hbq29
                  clear hbq29
                  by_cases c30 : bq29 = true
                  · subst c30
                    have H1 : (hornbooklaw17_DiffErrors.j1 k l0 t323 t329 t330 (t330 != 7)) = some r := by rw [if_pos rfl] at H; exact H
                    clear H
                    have H := H1
                    clear H1
                    have H' := Aside0.mk H
                    clear H
                    have p336 : 0 ≤ (t329 : Int) := of_decide_eq_true (by first | (with_reducible assumption) | assumption)
                    have q336 : t329 < (l0.length : Int) := of_decide_eq_true (by first | (with_reducible assumption) | assumption)
                    obtain ⟨ad336, e336, hx336_0, hx336_1, hx336_2⟩ := at_T34 HR0.out t329 p336 q336
                    (try rw [← Nbq29.out] at hx336_0)
                    cases e336
                    replace hx336_0 := (HB.out.cell (World.block_lt_of_cell? w _ hx336_0)).trans hx336_0
                    replace hx336_1 := (HB.out.cell (World.block_lt_of_cell? w _ hx336_1)).trans hx336_1
                    replace hx336_2 := (HB.out.cell (World.block_lt_of_cell? w _ hx336_2)).trans hx336_2
                    replace p336 := eq_true p336
                    replace q336 := eq_true q336
                    go_wp2
                    go_meet
                    case rel => exact ⟨_, ((t330 != 7)), (by first | rfl | (simp; done) | (simp [*]; done)), H', ⟨by first | omega | exact Nat.le_refl _⟩, ⟨by repeat (first | (with_reducible first | exact HB.out | apply below_alloc | apply pw_below_drewN | apply below_drew1) | exact HB.out)⟩⟩
                  · replace c30 := Bool.eq_false_iff.mpr c30
                    subst c30
                    have H1 : (hornbooklaw17_DiffErrors.j1 k l0 t323 t329 t330 false) = some r := by rw [if_neg (show ¬ (false = true) by decide)] at H; exact H
                    clear H
                    have H := H1
                    clear H1
                    have H' := Aside0.mk H
                    clear H
                    have p336 : 0 ≤ (t329 : Int) := of_decide_eq_true (by first | (with_reducible assumption) | assumption)
                    have q336 : t329 < (l0.length : Int) := of_decide_eq_true (by first | (with_reducible assumption) | assumption)
                    obtain ⟨ad336, e336, hx336_0, hx336_1, hx336_2⟩ := at_T34 HR0.out t329 p336 q336
                    (try rw [← Nbq29.out] at hx336_0)
                    cases e336
                    replace hx336_0 := (HB.out.cell (World.block_lt_of_cell? w _ hx336_0)).trans hx336_0
                    replace hx336_1 := (HB.out.cell (World.block_lt_of_cell? w _ hx336_1)).trans hx336_1
                    replace hx336_2 := (HB.out.cell (World.block_lt_of_cell? w _ hx336_2)).trans hx336_2
                    replace p336 := eq_true p336
                    replace q336 := eq_true q336
                    go_wp2
                    go_meet
                    case rel => exact ⟨_, (false), (by first | rfl | (simp; done) | (simp [*]; done)), H', ⟨by first | omega | exact Nat.le_refl _⟩, ⟨by repeat (first | (with_reducible first | exact HB.out | apply below_alloc | apply pw_below_drewN | apply below_drew1) | exact HB.out)⟩⟩
                · rw [if_neg c28] at H
                  exact absurd H (by simp)
              · rw [if_neg c27] at H
                exact absurd H (by simp)
            · rw [if_neg c26] at H
              have c26b0 : (t330 == 7) = false := beq_eq_false_iff_ne.mpr c26
              have c26b1 : (t330 != 7) = true := bne_iff_ne.mpr c26
              by_cases c31 : t330 = 3
              · rw [if_pos c31] at H
                have c31b0 : (t330 == 3) = true := beq_iff_eq.mpr c31
                have c31b1 : (t330 != 3) = false := bne_eq_false_iff_eq.mpr c31
                clear c31
                by_cases c32 : 0 ≤ t329
                · rw [if_pos c32] at H
                  have c32b0 : decide (0 ≤ t329) = true := decide_eq_true c32
                  clear c32
                  by_cases c33 : t329 < (l0.length : Int)
                  · rw [if_pos c33] at H
                    have c33b0 : decide (t329 < (l0.length : Int)) = true := decide_eq_true c33
                    clear c33
                    obtain ⟨bq34, hbq34⟩ : ∃ b_ : Bool, b_ = ((rd_T34 l0 t329).f0) := ⟨_, rfl⟩
                    replace H : (if bq34 = true then (hornbooklaw17_DiffErrors.j1 k l0 t323 t329 t330 (t330 != 7)) else (hornbooklaw17_DiffErrors.j1 k l0 t323 t329 t330 false)) = some r := by rw [← hbq34] at H; exact H
                    have Nbq34 := Aside0.mk hbq34
                    clear hbq34
                    by_cases c35 : bq34 = true
                    · subst c35
                      have H1 : (hornbooklaw17_DiffErrors.j1 k l0 t323 t329 t330 (t330 != 7)) = some r := by rw [if_pos rfl] at H; exact H
                      clear H
                      have H := H1
                      clear H1
                      have H' := Aside0.mk H
                      clear H
                      have p337 : 0 ≤ (t329 : Int) := of_decide_eq_true (by first | (with_reducible assumption) | assumption)
                      have q337 : t329 < (l0.length : Int) := of_decide_eq_true (by first | (with_reducible assumption) | assumption)
                      obtain ⟨ad337, e337, hx337_0, hx337_1, hx337_2⟩ := at_T34 HR0.out t329 p337 q337
                      (try rw [← Nbq34.out] at hx337_0)
                      cases e337
                      replace hx337_0 := (HB.out.cell (World.block_lt_of_cell? w _ hx337_0)).trans hx337_0
                      replace hx337_1 := (HB.out.cell (World.block_lt_of_cell? w _ hx337_1)).trans hx337_1
                      replace hx337_2 := (HB.out.cell (World.block_lt_of_cell? w _ hx337_2)).trans hx337_2
                      replace p337 := eq_true p337
                      replace q337 := eq_true q337
                      go_wp2
                      go_meet
                      case rel => exact ⟨_, ((t330 != 7)), (by first | rfl | (simp; done) | (simp [*]; done)), H', ⟨by first | omega | exact Nat.le_refl _⟩, ⟨by repeat (first | (with_reducible first | exact HB.out | apply below_alloc | apply pw_below_drewN | apply below_drew1) | exact HB.out)⟩⟩
                    · replace c35 := Bool.eq_false_iff.mpr c35
                      subst c35
                      have H1 : (hornbooklaw17_DiffErrors.j1 k l0 t323 t329 t330 false) = some r := by rw [if_neg (show ¬ (false = true) by decide)] at H; exact H
                      clear H
                      have H := H1
                      clear H1
                      have H' := Aside0.mk H
                      clear H
                      have p337 : 0 ≤ (t329 : Int) := of_decide_eq_true (by first | (with_reducible assumption) | assumption)
                      have q337 : t329 < (l0.length : Int) := of_decide_eq_true (by first | (with_reducible assumption) | assumption)
                      obtain ⟨ad337, e337, hx337_0, hx337_1, hx337_2⟩ := at_T34 HR0.out t329 p337 q337
                      (try rw [← Nbq34.out] at hx337_0)
                      cases e337
                      replace hx337_0 := (HB.out.cell (World.block_lt_of_cell? w _ hx337_0)).trans hx337_0
                      replace hx337_1 := (HB.out.cell (World.block_lt_of_cell? w _ hx337_1)).trans hx337_1
                      replace hx337_2 := (HB.out.cell (World.block_lt_of_cell? w _ hx337_2)).trans hx337_2
                      replace p337 := eq_true p337
                      replace q337 := eq_true q337
                      go_wp2
                      go_meet
                      case rel => exact ⟨_, (false), (by first | rfl | (simp; done) | (simp [*]; done)), H', ⟨by first | omega | exact Nat.le_refl _⟩, ⟨by repeat (first | (with_reducible first | exact HB.out | apply below_alloc | apply pw_below_drewN | apply below_drew1) | exact HB.out)⟩⟩
                  · rw [if_neg c33] at H
                    exact absurd H (by simp)
                · rw [if_neg c32] at H
                  exact absurd H (by simp)
              · rw [if_neg c31] at H
                have c31b0 : (t330 == 3) = false := beq_eq_false_iff_ne.mpr c31
                have c31b1 : (t330 != 3) = true := bne_iff_ne.mpr c31
                have H' := Aside0.mk H
                clear H
                go_wp2
                go_meet
                case rel => exact ⟨_, (true), (by first | rfl | (simp; done) | (simp [*]; done)), H', ⟨by first | omega | exact Nat.le_refl _⟩, ⟨by repeat (first | (with_reducible first | exact HB.out | apply below_alloc | apply pw_below_drewN | apply below_drew1) | exact HB.out)⟩⟩
      case rest =>
        clear HC19
        try clear c1
        try clear q1
        try clear c2
        try clear p2
        try clear q2
        try clear c3
        try clear p3
        try clear q3
        try clear hx3
        try clear c4
        try clear p6
        try clear c7
        try clear c7b0
        try clear c7b1
        try clear c9
        try clear c10
        try clear c11
        try clear c12
        try clear c12b0
        try clear c13
        try clear c13b0
        try clear q14
        try clear c15
        try clear c16
        try clear c16b0
        try clear c17
        try clear c17b0
        try clear c18
        try clear c24
        try clear c24b0
        try clear c25
        try clear c25b0
        try clear c26
        try clear c26b0
        try clear c26b1
        try clear c27
        try clear c27b0
        try clear c28
        try clear c28b0
        try clear q29
        try clear c30
        try clear c31
        try clear c31b0
        try clear c31b1
        try clear c32
        try clear c32b0
        try clear c33
        try clear c33b0
        try clear p33
        try clear q33
        try clear hx33
        try clear q34
        try clear c35
        try clear hx333_0
        try clear hx333_1
        try clear hx333_2
        try clear hx334_0
        try clear hx334_1
        try clear hx334_2
        try clear hx335_0
        try clear hx335_1
        try clear hx335_2
        try clear hx336_0
        try clear hx336_1
        try clear hx336_2
        try clear hx337_0
        try clear hx337_1
        try clear hx337_2
        try clear p2
        try clear p333
        try clear p334
        try clear p335
        try clear p336
        try clear p337
        try clear q333
        try clear q334
        try clear q335
        try clear q336
        try clear q337
        obtain ⟨kq, x86_18, rfl, HA, HJ18, HB⟩ := hcut
        cases kq with
        | zero => exact absurd HA.out (by simp [hornbooklaw17_DiffErrors.j1])
        | succ kj18 =>
          have H := HA.out
          clear HA
          simp only [hornbooklaw17_DiffErrors.j1] at H
          by_cases c36 : x86_18 = true
          · subst c36
            have H1 : (some false) = some r := by rw [if_pos rfl] at H; exact H
            clear H
            have H := H1
            clear H1
            obtain rfl := Option.some.inj H
            go_wp2
            go_ret
            exact ⟨by first | rfl | (simp [errW_none, errW_some] <;> rfl) | (simp [*, errW_none, errW_some] <;> rfl), by repeat (first | (with_reducible first | exact HB.out | apply below_alloc | apply pw_below_drewN | apply below_drew1) | exact HB.out)⟩
          · replace c36 := Bool.eq_false_iff.mpr c36
            subst c36
            have H1 : (if 0 ≤ t329 then (if t329 ≤ (l0.length : Int) then ((hornbooklaw17_ours.f kj18 (l0.take (t329 : Int).toNat)).bind fun t342 => ((diff_Make.f kj18 1 t342).bind fun bt345 => (if 0 ≤ (wrap64 (t329 + 1)) then (if (wrap64 (t329 + 1)) ≤ (l0.length : Int) then ((hornbooklaw17_ours.f kj18 (l0.take ((wrap64 (t329 + 1)) : Int).toNat)).bind fun t354 => ((diff_Make.f kj18 1 t354).bind fun bt357 => (if t323 = true then (if bt345.2.2 = 0 then (if bt357.2.2 = t330 then (some (bt357.2.1 == t329)) else (some false)) else (some false)) else (some false)))) else (none)) else (none)))) else (none)) else (none)) = some r := by rw [if_neg (show ¬ (false = true) by decide)] at H; exact H
            clear H
            have H := H1
            clear H1
            by_cases c37 : 0 ≤ t329
            · rw [if_pos c37] at H
              have c37b0 := eq_true c37
              have c37b1 : decide (0 ≤ t329) = true := decide_eq_true c37
              clear c37
              by_cases c38 : t329 ≤ (l0.length : Int)
              · rw [if_pos c38] at H
                have c38b0 := eq_true c38
                have c38b1 : decide (t329 ≤ (l0.length : Int)) = true := decide_eq_true c38
                clear c38
                obtain ⟨y338, hy338⟩ : ∃ y_ : List (S34), y_ = (l0.take (t329 : Int).toNat) := ⟨_, rfl⟩
                replace H : ((hornbooklaw17_ours.f kj18 y338).bind fun t342 => ((diff_Make.f kj18 1 t342).bind fun bt345 => (if 0 ≤ (wrap64 (t329 + 1)) then (if (wrap64 (t329 + 1)) ≤ (l0.length : Int) then ((hornbooklaw17_ours.f kj18 (l0.take ((wrap64 (t329 + 1)) : Int).toNat)).bind fun t354 => ((diff_Make.f kj18 1 t354).bind fun bt357 => (if t323 = true then (if bt345.2.2 = 0 then (if bt357.2.2 = t330 then (some (bt357.2.1 == t329)) else (some false)) else (some false)) else (some false)))) else (none)) else (none)))) = some r := by first | (rw [hy338]; with_reducible exact H) | (have H2_ := (Option.bind_some _ _).symm.trans H; rw [hy338]; with_reducible exact H2_) | (have H2_ := (Option.bind_some _ _).symm.trans H; with_reducible exact H2_) | with_reducible exact H | (rw [hy338]; exact H) | exact H
                have Ny338 := Aside0.mk hy338
                clear hy338
                replace H := Option.bind_eq_some_iff.mp H
                obtain ⟨t342, A390, H⟩ := H
                replace H : ((diff_Make.f kj18 1 t342).bind fun bt345 => (if 0 ≤ (wrap64 (t329 + 1)) then (if (wrap64 (t329 + 1)) ≤ (l0.length : Int) then ((hornbooklaw17_ours.f kj18 (l0.take ((wrap64 (t329 + 1)) : Int).toNat)).bind fun t354 => ((diff_Make.f kj18 1 t354).bind fun bt357 => (if t323 = true then (if bt345.2.2 = 0 then (if bt357.2.2 = t330 then (some (bt357.2.1 == t329)) else (some false)) else (some false)) else (some false)))) else (none)) else (none))) = some r := H
                have A39 := Aside0.mk A390
                clear A390
                replace H := Option.bind_eq_some_iff.mp H
                obtain ⟨⟨t345, t346, t347⟩, A400, H⟩ := H
                replace H : (if 0 ≤ (wrap64 (t329 + 1)) then (if (wrap64 (t329 + 1)) ≤ (l0.length : Int) then ((hornbooklaw17_ours.f kj18 (l0.take ((wrap64 (t329 + 1)) : Int).toNat)).bind fun t354 => ((diff_Make.f kj18 1 t354).bind fun bt357 => (if t323 = true then (if t347 = 0 then (if bt357.2.2 = t330 then (some (bt357.2.1 == t329)) else (some false)) else (some false)) else (some false)))) else (none)) else (none)) = some r := H
                have A40 := Aside0.mk A400
                clear A400
                obtain ⟨ji41, hji41⟩ : ∃ j_ : Int, (wrap64 (t329 + 1)) = j_ := ⟨_, rfl⟩
                replace H : (if 0 ≤ (ji41) then (if (ji41) ≤ (l0.length : Int) then ((hornbooklaw17_ours.f kj18 (l0.take ((ji41) : Int).toNat)).bind fun t354 => ((diff_Make.f kj18 1 t354).bind fun bt357 => (if t323 = true then (if t347 = 0 then (if bt357.2.2 = t330 then (some (bt357.2.1 == t329)) else (some false)) else (some false)) else (some false)))) else (none)) else (none)) = some r := by first | (rw [hji41] at H; exact H) | (simp only [hji41] at H ⊢; exact H)
                (try rw [hji41] at A39)
                (try rw [hji41] at A40)
                have hji41w : (IntKind.i64.wrap (t329 + 1)) = ji41 := (i64_w _).trans hji41
                by_cases c42 : 0 ≤ (ji41)
                · rw [if_pos c42] at H
                  have c42b0 := eq_true c42
                  have c42b1 : decide (0 ≤ (ji41)) = true := decide_eq_true c42
                  clear c42
                  by_cases c43 : (ji41) ≤ (l0.length : Int)
                  · rw [if_pos c43] at H
                    have c43b0 := eq_true c43
                    have c43b1 : decide ((ji41) ≤ (l0.length : Int)) = true := decide_eq_true c43
                    clear c43
                    obtain ⟨y350, hy350⟩ : ∃ y_ : List (S34), y_ = (l0.take ((ji41) : Int).toNat) := ⟨_, rfl⟩
                    replace H : ((hornbooklaw17_ours.f kj18 y350).bind fun t354 => ((diff_Make.f kj18 1 t354).bind fun bt357 => (if t323 = true then (if t347 = 0 then (if bt357.2.2 = t330 then (some (bt357.2.1 == t329)) else (some false)) else (some false)) else (some false)))) = some r := by first | (rw [hy350]; with_reducible exact H) | (have H2_ := (Option.bind_some _ _).symm.trans H; rw [hy350]; with_reducible exact H2_) | (have H2_ := (Option.bind_some _ _).symm.trans H; with_reducible exact H2_) | with_reducible exact H | (rw [hy350]; exact H) | exact H
                    have Ny350 := Aside0.mk hy350
                    clear hy350
                    replace H := Option.bind_eq_some_iff.mp H
                    obtain ⟨t354, A440, H⟩ := H
                    replace H : ((diff_Make.f kj18 1 t354).bind fun bt357 => (if t323 = true then (if t347 = 0 then (if bt357.2.2 = t330 then (some (bt357.2.1 == t329)) else (some false)) else (some false)) else (some false))) = some r := H
                    have A44 := Aside0.mk A440
                    clear A440
                    replace H := Option.bind_eq_some_iff.mp H
                    obtain ⟨⟨t357, t358, t359⟩, A450, H⟩ := H
                    replace H : (if t323 = true then (if t347 = 0 then (if t359 = t330 then (some (t358 == t329)) else (some false)) else (some false)) else (some false)) = some r := H
                    have A45 := Aside0.mk A450
                    clear A450
                    by_cases c46 : t323 = true
                    · subst c46
                      have H1 : (if t347 = 0 then (if t359 = t330 then (some (t358 == t329)) else (some false)) else (some false)) = some r := by rw [if_pos rfl] at H; exact H
                      clear H
                      have H := H1
                      clear H1
                      by_cases c47 : t347 = 0
                      · rw [if_pos c47] at H
                        have c47b0 : (t347 == 0) = true := beq_iff_eq.mpr c47
                        have c47b1 : (t347 != 0) = false := bne_eq_false_iff_eq.mpr c47
                        clear c47
                        by_cases c48 : t359 = t330
                        · rw [if_pos c48] at H
                          have c48b0 : (t359 == t330) = true := beq_iff_eq.mpr c48
                          have c48b1 : (t359 != t330) = false := bne_eq_false_iff_eq.mpr c48
                          clear c48
                          obtain rfl := Option.some.inj H
                          have q49 : (t329 : Int) ≤ ((l0.length : Int) : Int) := of_decide_eq_true (by first | (with_reducible assumption) | assumption)
                          obtain ⟨i049, hi049, _, hsz49, _⟩ := info_parts info34
                          have hroom49 : l0.length ≤ c0 := HC0.out
                          have hC49 : Kd.C k34 _ A0 l0.length l0 := HR0.out
                          have hcut49 := cut_to (P := Tryz.prog) 22 34 .i64 Tryz.underlying22 hi049 A0 l0.length c0 t329 (of_decide_eq_true (by first | (with_reducible assumption) | assumption)) q49 hroom49
                          have hr49 := Kd.C_take (m := (t329 : Int).toNat) hC49 (by omega)
                          have hy49 : y338.length = (t329 : Int).toNat := (by rw [Ny338.out, List.length_take]; omega)
                          rw [← Ny338.out] at hr49
                          rw [← hy49] at hcut49
                          have HR341 := Aside0.mk hr49
                          have HC341 := Aside0.mk (show y338.length ≤ c0 from by omega)
                          clear hr49 hC49 hroom49 hi049 hsz49
                          have KY49 := Aside0.mk hy49
                          clear hy49
                          replace q49 := eq_true q49
                          go_wp2_with (first | ((with_reducible refine gate_callee (f := 12) rfl ?_); refine goesL_ (some 91) rfl rfl Tryz.func12 (by kernel_rfl) rfl #[.slice A0 y338.length c0] rfl (by (try simp only [List.map_toArray, List.map_cons, List.map_nil]); first | done | rfl | (simp only [List.length_drop, List.length_take]; rfl)) ?_; (with_reducible refine (hornbooklaw17_ours.calls kj18 _ _ y338 t342 _ ?side1 ?side2 A39.out).mono ?_); (case side1 => repeat (first | exact (Kd.C_below HR341.out HB.out) | (with_reducible refine Kd.C_alloc ?_ _) | (with_reducible refine Kd.C_drewN ?_ _) | (with_reducible refine Kd.C_drew ?_))); (case side2 => exact HC341.out); rintro e w50 ⟨v343, rfl, ho0, hb⟩; refine ⟨_, rfl, ?_⟩; have n0_ := Aside0.mk (Kd.R_lower ho0 (below_size (by repeat (first | (with_reducible first | exact HB.out | apply below_alloc | apply pw_below_drewN | apply below_drew1) | exact HB.out)))); have n1_ := Aside0.mk (below_step (by repeat (first | (with_reducible first | exact HB.out | apply below_alloc | apply pw_below_drewN | apply below_drew1) | exact HB.out)) hb); clear HB; have HO344 := n0_; have HB := n1_; clear n0_ n1_; (try clear hb); (try clear hb2); (try clear hk); (try clear hi); (try clear ho0); obtain ⟨Ao51, co51, eo51⟩ := Kd.R_slice HO344.out; subst eo51) | ((with_reducible refine gate_callee (f := 11) rfl ?_); refine goesL_ (some 92) rfl rfl Tryz.func11 (by kernel_rfl) rfl #[.int .i64 1, .slice Ao51 t342.length co51] rfl (by (try simp only [List.map_toArray, List.map_cons, List.map_nil]); first | done | rfl | (simp only [List.length_drop, List.length_take]; rfl)) ?_; (with_reducible refine (diff_Make.calls kj18 1 _ _ t342 t345 t346 t347 _ ?side1 ?side2 ?side3 A40.out).mono ?_); (case side1 => exact GW.below (by repeat (first | (with_reducible first | exact HB.out | apply below_alloc | apply pw_below_drewN | apply below_drew1) | exact HB.out)) HG.out); (case side2 => repeat (first | exact (Kd.R_reads' HO344.out).2.2 | (with_reducible refine Kd.C_alloc ?_ _) | (with_reducible refine Kd.C_drewN ?_ _) | (with_reducible refine Kd.C_drew ?_))); (case side3 => exact (Kd.R_reads' HO344.out).2.1); rintro e w52 ⟨v348, rfl, ho0, hb⟩; refine ⟨_, rfl, ?_⟩; have n0_ := Aside0.mk (Kd.R_below (by (with_reducible repeat (first | apply Kd.R_alloc | apply Kd.R_drewN | apply Kd.R_drew)); exact HO344.out) hb); have n1_ := Aside0.mk (Kd.R_lower ho0 (below_size (by repeat (first | (with_reducible first | exact HB.out | apply below_alloc | apply pw_below_drewN | apply below_drew1) | exact HB.out)))); have n2_ := Aside0.mk (below_step (by repeat (first | (with_reducible first | exact HB.out | apply below_alloc | apply pw_below_drewN | apply below_drew1) | exact HB.out)) hb); clear HO344; clear HB; have HO344 := n0_; have HO349 := n1_; have HB := n2_; clear n0_ n1_ n2_; (try clear hb); (try clear hb2); (try clear hk); (try clear hi); (try clear ho0); have q53 : ((ji41) : Int) ≤ ((l0.length : Int) : Int) := of_decide_eq_true (by first | (with_reducible assumption) | assumption); obtain ⟨i053, hi053, _, hsz53, _⟩ := info_parts info34; have hroom53 : l0.length ≤ c0 := HC0.out; have hC53 : Kd.C k34 _ A0 l0.length l0 := HR0.out; have hcut53 := cut_to (P := Tryz.prog) 22 34 .i64 Tryz.underlying22 hi053 A0 l0.length c0 (ji41) (of_decide_eq_true (by first | (with_reducible assumption) | assumption)) q53 hroom53; have hr53 := Kd.C_take (m := ((ji41) : Int).toNat) hC53 (by omega); have hy53 : y350.length = ((ji41) : Int).toNat := (by rw [Ny350.out, List.length_take]; omega); rw [← Ny350.out] at hr53; rw [← hy53] at hcut53; have HR353 := Aside0.mk hr53; have HC353 := Aside0.mk (show y350.length ≤ c0 from by omega); clear hr53 hC53 hroom53 hi053 hsz53; have KY53 := Aside0.mk hy53; clear hy53; replace q53 := eq_true q53) | ((with_reducible refine gate_callee (f := 12) rfl ?_); refine goesL_ (some 101) rfl rfl Tryz.func12 (by kernel_rfl) rfl #[.slice A0 y350.length c0] rfl (by (try simp only [List.map_toArray, List.map_cons, List.map_nil]); first | done | rfl | (simp only [List.length_drop, List.length_take]; rfl)) ?_; (with_reducible refine (hornbooklaw17_ours.calls kj18 _ _ y350 t354 _ ?side1 ?side2 A44.out).mono ?_); (case side1 => repeat (first | exact (Kd.C_below HR353.out HB.out) | (with_reducible refine Kd.C_alloc ?_ _) | (with_reducible refine Kd.C_drewN ?_ _) | (with_reducible refine Kd.C_drew ?_))); (case side2 => exact HC353.out); rintro e w54 ⟨v355, rfl, ho0, hb⟩; refine ⟨_, rfl, ?_⟩; have n0_ := Aside0.mk (Kd.R_elder' (by (with_reducible repeat (first | apply Kd.R_alloc | apply Kd.R_drewN | apply Kd.R_drew)); exact HO344.out) (Kd.R_base ho0) hb); have n1_ := Aside0.mk (Kd.R_below (by (with_reducible repeat (first | apply Kd.R_alloc | apply Kd.R_drewN | apply Kd.R_drew)); exact HO349.out) hb); have n2_ := Aside0.mk (Kd.R_lower (Kd.R_new' ho0 (Kd.R_lt (by (with_reducible repeat (first | apply Kd.R_alloc | apply Kd.R_drewN | apply Kd.R_drew)); exact HO344.out))) (below_size (by repeat (first | (with_reducible first | exact HB.out | apply below_alloc | apply pw_below_drewN | apply below_drew1) | exact HB.out)))); have n3_ := Aside0.mk (below_step (by repeat (first | (with_reducible first | exact HB.out | apply below_alloc | apply pw_below_drewN | apply below_drew1) | exact HB.out)) hb); clear HO344; clear HO349; clear HB; have HO344 := n0_; have HO349 := n1_; have HO356 := n2_; have HB := n3_; clear n0_ n1_ n2_ n3_; (try clear hb); (try clear hb2); (try clear hk); (try clear hi); (try clear ho0); obtain ⟨Ao55, co55, eo55⟩ := Kd.R_slice HO356.out; subst eo55) | ((with_reducible refine gate_callee (f := 11) rfl ?_); refine goesL_ (some 102) rfl rfl Tryz.func11 (by kernel_rfl) rfl #[.int .i64 1, .slice Ao55 t354.length co55] rfl (by (try simp only [List.map_toArray, List.map_cons, List.map_nil]); first | done | rfl | (simp only [List.length_drop, List.length_take]; rfl)) ?_; (with_reducible refine (diff_Make.calls kj18 1 _ _ t354 t357 t358 t359 _ ?side1 ?side2 ?side3 A45.out).mono ?_); (case side1 => exact GW.below (by repeat (first | (with_reducible first | exact HB.out | apply below_alloc | apply pw_below_drewN | apply below_drew1) | exact HB.out)) HG.out); (case side2 => repeat (first | exact (Kd.R_reads' HO356.out).2.2 | (with_reducible refine Kd.C_alloc ?_ _) | (with_reducible refine Kd.C_drewN ?_ _) | (with_reducible refine Kd.C_drew ?_))); (case side3 => exact (Kd.R_reads' HO356.out).2.1); rintro e w56 ⟨v360, rfl, ho0, hb⟩; refine ⟨_, rfl, ?_⟩; have n0_ := Aside0.mk (Kd.R_below (by (with_reducible repeat (first | apply Kd.R_alloc | apply Kd.R_drewN | apply Kd.R_drew)); exact HO344.out) hb); have n1_ := Aside0.mk (Kd.R_elder' (by (with_reducible repeat (first | apply Kd.R_alloc | apply Kd.R_drewN | apply Kd.R_drew)); exact HO349.out) (Kd.R_base ho0) hb); have n2_ := Aside0.mk (Kd.R_below (by (with_reducible repeat (first | apply Kd.R_alloc | apply Kd.R_drewN | apply Kd.R_drew)); exact HO356.out) hb); have n3_ := Aside0.mk (Kd.R_lower (Kd.R_new' ho0 (Kd.R_lt (by (with_reducible repeat (first | apply Kd.R_alloc | apply Kd.R_drewN | apply Kd.R_drew)); exact HO349.out))) (below_size (by repeat (first | (with_reducible first | exact HB.out | apply below_alloc | apply pw_below_drewN | apply below_drew1) | exact HB.out)))); have n4_ := Aside0.mk (below_step (by repeat (first | (with_reducible first | exact HB.out | apply below_alloc | apply pw_below_drewN | apply below_drew1) | exact HB.out)) hb); clear HO344; clear HO349; clear HO356; clear HB; have HO344 := n0_; have HO349 := n1_; have HO356 := n2_; have HO361 := n3_; have HB := n4_; clear n0_ n1_ n2_ n3_ n4_; (try clear hb); (try clear hb2); (try clear hk); (try clear hi); (try clear ho0)))
                          go_ret
                          exact ⟨by first | rfl | (simp [errW_none, errW_some] <;> rfl) | (simp only [← hji41]; first | rfl | (simp [errW_none, errW_some] <;> rfl)) | (simp [*, errW_none, errW_some] <;> rfl), by repeat (first | (with_reducible first | exact HB.out | apply below_alloc | apply pw_below_drewN | apply below_drew1) | exact HB.out)⟩
                        · rw [if_neg c48] at H
                          have c48b0 : (t359 == t330) = false := beq_eq_false_iff_ne.mpr c48
                          have c48b1 : (t359 != t330) = true := bne_iff_ne.mpr c48
                          obtain rfl := Option.some.inj H
                          have q57 : (t329 : Int) ≤ ((l0.length : Int) : Int) := of_decide_eq_true (by first | (with_reducible assumption) | assumption)
                          obtain ⟨i057, hi057, _, hsz57, _⟩ := info_parts info34
                          have hroom57 : l0.length ≤ c0 := HC0.out
                          have hC57 : Kd.C k34 _ A0 l0.length l0 := HR0.out
                          have hcut57 := cut_to (P := Tryz.prog) 22 34 .i64 Tryz.underlying22 hi057 A0 l0.length c0 t329 (of_decide_eq_true (by first | (with_reducible assumption) | assumption)) q57 hroom57
                          have hr57 := Kd.C_take (m := (t329 : Int).toNat) hC57 (by omega)
                          have hy57 : y338.length = (t329 : Int).toNat := (by rw [Ny338.out, List.length_take]; omega)
                          rw [← Ny338.out] at hr57
                          rw [← hy57] at hcut57
                          have HR341 := Aside0.mk hr57
                          have HC341 := Aside0.mk (show y338.length ≤ c0 from by omega)
                          clear hr57 hC57 hroom57 hi057 hsz57
                          have KY57 := Aside0.mk hy57
                          clear hy57
                          replace q57 := eq_true q57
                          go_wp2_with (first | ((with_reducible refine gate_callee (f := 12) rfl ?_); refine goesL_ (some 91) rfl rfl Tryz.func12 (by kernel_rfl) rfl #[.slice A0 y338.length c0] rfl (by (try simp only [List.map_toArray, List.map_cons, List.map_nil]); first | done | rfl | (simp only [List.length_drop, List.length_take]; rfl)) ?_; (with_reducible refine (hornbooklaw17_ours.calls kj18 _ _ y338 t342 _ ?side1 ?side2 A39.out).mono ?_); (case side1 => repeat (first | exact (Kd.C_below HR341.out HB.out) | (with_reducible refine Kd.C_alloc ?_ _) | (with_reducible refine Kd.C_drewN ?_ _) | (with_reducible refine Kd.C_drew ?_))); (case side2 => exact HC341.out); rintro e w58 ⟨v343, rfl, ho0, hb⟩; refine ⟨_, rfl, ?_⟩; have n0_ := Aside0.mk (Kd.R_lower ho0 (below_size (by repeat (first | (with_reducible first | exact HB.out | apply below_alloc | apply pw_below_drewN | apply below_drew1) | exact HB.out)))); have n1_ := Aside0.mk (below_step (by repeat (first | (with_reducible first | exact HB.out | apply below_alloc | apply pw_below_drewN | apply below_drew1) | exact HB.out)) hb); clear HB; have HO344 := n0_; have HB := n1_; clear n0_ n1_; (try clear hb); (try clear hb2); (try clear hk); (try clear hi); (try clear ho0); obtain ⟨Ao59, co59, eo59⟩ := Kd.R_slice HO344.out; subst eo59) | ((with_reducible refine gate_callee (f := 11) rfl ?_); refine goesL_ (some 92) rfl rfl Tryz.func11 (by kernel_rfl) rfl #[.int .i64 1, .slice Ao59 t342.length co59] rfl (by (try simp only [List.map_toArray, List.map_cons, List.map_nil]); first | done | rfl | (simp only [List.length_drop, List.length_take]; rfl)) ?_; (with_reducible refine (diff_Make.calls kj18 1 _ _ t342 t345 t346 t347 _ ?side1 ?side2 ?side3 A40.out).mono ?_); (case side1 => exact GW.below (by repeat (first | (with_reducible first | exact HB.out | apply below_alloc | apply pw_below_drewN | apply below_drew1) | exact HB.out)) HG.out); (case side2 => repeat (first | exact (Kd.R_reads' HO344.out).2.2 | (with_reducible refine Kd.C_alloc ?_ _) | (with_reducible refine Kd.C_drewN ?_ _) | (with_reducible refine Kd.C_drew ?_))); (case side3 => exact (Kd.R_reads' HO344.out).2.1); rintro e w60 ⟨v348, rfl, ho0, hb⟩; refine ⟨_, rfl, ?_⟩; have n0_ := Aside0.mk (Kd.R_below (by (with_reducible repeat (first | apply Kd.R_alloc | apply Kd.R_drewN | apply Kd.R_drew)); exact HO344.out) hb); have n1_ := Aside0.mk (Kd.R_lower ho0 (below_size (by repeat (first | (with_reducible first | exact HB.out | apply below_alloc | apply pw_below_drewN | apply below_drew1) | exact HB.out)))); have n2_ := Aside0.mk (below_step (by repeat (first | (with_reducible first | exact HB.out | apply below_alloc | apply pw_below_drewN | apply below_drew1) | exact HB.out)) hb); clear HO344; clear HB; have HO344 := n0_; have HO349 := n1_; have HB := n2_; clear n0_ n1_ n2_; (try clear hb); (try clear hb2); (try clear hk); (try clear hi); (try clear ho0); have q61 : ((ji41) : Int) ≤ ((l0.length : Int) : Int) := of_decide_eq_true (by first | (with_reducible assumption) | assumption); obtain ⟨i061, hi061, _, hsz61, _⟩ := info_parts info34; have hroom61 : l0.length ≤ c0 := HC0.out; have hC61 : Kd.C k34 _ A0 l0.length l0 := HR0.out; have hcut61 := cut_to (P := Tryz.prog) 22 34 .i64 Tryz.underlying22 hi061 A0 l0.length c0 (ji41) (of_decide_eq_true (by first | (with_reducible assumption) | assumption)) q61 hroom61; have hr61 := Kd.C_take (m := ((ji41) : Int).toNat) hC61 (by omega); have hy61 : y350.length = ((ji41) : Int).toNat := (by rw [Ny350.out, List.length_take]; omega); rw [← Ny350.out] at hr61; rw [← hy61] at hcut61; have HR353 := Aside0.mk hr61; have HC353 := Aside0.mk (show y350.length ≤ c0 from by omega); clear hr61 hC61 hroom61 hi061 hsz61; have KY61 := Aside0.mk hy61; clear hy61; replace q61 := eq_true q61) | ((with_reducible refine gate_callee (f := 12) rfl ?_); refine goesL_ (some 101) rfl rfl Tryz.func12 (by kernel_rfl) rfl #[.slice A0 y350.length c0] rfl (by (try simp only [List.map_toArray, List.map_cons, List.map_nil]); first | done | rfl | (simp only [List.length_drop, List.length_take]; rfl)) ?_; (with_reducible refine (hornbooklaw17_ours.calls kj18 _ _ y350 t354 _ ?side1 ?side2 A44.out).mono ?_); (case side1 => repeat (first | exact (Kd.C_below HR353.out HB.out) | (with_reducible refine Kd.C_alloc ?_ _) | (with_reducible refine Kd.C_drewN ?_ _) | (with_reducible refine Kd.C_drew ?_))); (case side2 => exact HC353.out); rintro e w62 ⟨v355, rfl, ho0, hb⟩; refine ⟨_, rfl, ?_⟩; have n0_ := Aside0.mk (Kd.R_elder' (by (with_reducible repeat (first | apply Kd.R_alloc | apply Kd.R_drewN | apply Kd.R_drew)); exact HO344.out) (Kd.R_base ho0) hb); have n1_ := Aside0.mk (Kd.R_below (by (with_reducible repeat (first | apply Kd.R_alloc | apply Kd.R_drewN | apply Kd.R_drew)); exact HO349.out) hb); have n2_ := Aside0.mk (Kd.R_lower (Kd.R_new' ho0 (Kd.R_lt (by (with_reducible repeat (first | apply Kd.R_alloc | apply Kd.R_drewN | apply Kd.R_drew)); exact HO344.out))) (below_size (by repeat (first | (with_reducible first | exact HB.out | apply below_alloc | apply pw_below_drewN | apply below_drew1) | exact HB.out)))); have n3_ := Aside0.mk (below_step (by repeat (first | (with_reducible first | exact HB.out | apply below_alloc | apply pw_below_drewN | apply below_drew1) | exact HB.out)) hb); clear HO344; clear HO349; clear HB; have HO344 := n0_; have HO349 := n1_; have HO356 := n2_; have HB := n3_; clear n0_ n1_ n2_ n3_; (try clear hb); (try clear hb2); (try clear hk); (try clear hi); (try clear ho0); obtain ⟨Ao63, co63, eo63⟩ := Kd.R_slice HO356.out; subst eo63) | ((with_reducible refine gate_callee (f := 11) rfl ?_); refine goesL_ (some 102) rfl rfl Tryz.func11 (by kernel_rfl) rfl #[.int .i64 1, .slice Ao63 t354.length co63] rfl (by (try simp only [List.map_toArray, List.map_cons, List.map_nil]); first | done | rfl | (simp only [List.length_drop, List.length_take]; rfl)) ?_; (with_reducible refine (diff_Make.calls kj18 1 _ _ t354 t357 t358 t359 _ ?side1 ?side2 ?side3 A45.out).mono ?_); (case side1 => exact GW.below (by repeat (first | (with_reducible first | exact HB.out | apply below_alloc | apply pw_below_drewN | apply below_drew1) | exact HB.out)) HG.out); (case side2 => repeat (first | exact (Kd.R_reads' HO356.out).2.2 | (with_reducible refine Kd.C_alloc ?_ _) | (with_reducible refine Kd.C_drewN ?_ _) | (with_reducible refine Kd.C_drew ?_))); (case side3 => exact (Kd.R_reads' HO356.out).2.1); rintro e w64 ⟨v360, rfl, ho0, hb⟩; refine ⟨_, rfl, ?_⟩; have n0_ := Aside0.mk (Kd.R_below (by (with_reducible repeat (first | apply Kd.R_alloc | apply Kd.R_drewN | apply Kd.R_drew)); exact HO344.out) hb); have n1_ := Aside0.mk (Kd.R_elder' (by (with_reducible repeat (first | apply Kd.R_alloc | apply Kd.R_drewN | apply Kd.R_drew)); exact HO349.out) (Kd.R_base ho0) hb); have n2_ := Aside0.mk (Kd.R_below (by (with_reducible repeat (first | apply Kd.R_alloc | apply Kd.R_drewN | apply Kd.R_drew)); exact HO356.out) hb); have n3_ := Aside0.mk (Kd.R_lower (Kd.R_new' ho0 (Kd.R_lt (by (with_reducible repeat (first | apply Kd.R_alloc | apply Kd.R_drewN | apply Kd.R_drew)); exact HO349.out))) (below_size (by repeat (first | (with_reducible first | exact HB.out | apply below_alloc | apply pw_below_drewN | apply below_drew1) | exact HB.out)))); have n4_ := Aside0.mk (below_step (by repeat (first | (with_reducible first | exact HB.out | apply below_alloc | apply pw_below_drewN | apply below_drew1) | exact HB.out)) hb); clear HO344; clear HO349; clear HO356; clear HB; have HO344 := n0_; have HO349 := n1_; have HO356 := n2_; have HO361 := n3_; have HB := n4_; clear n0_ n1_ n2_ n3_ n4_; (try clear hb); (try clear hb2); (try clear hk); (try clear hi); (try clear ho0)))
                          go_ret
                          exact ⟨by first | rfl | (simp [errW_none, errW_some] <;> rfl) | (simp only [← hji41]; first | rfl | (simp [errW_none, errW_some] <;> rfl)) | (simp [*, errW_none, errW_some] <;> rfl), by repeat (first | (with_reducible first | exact HB.out | apply below_alloc | apply pw_below_drewN | apply below_drew1) | exact HB.out)⟩
                      · rw [if_neg c47] at H
                        have c47b0 : (t347 == 0) = false := beq_eq_false_iff_ne.mpr c47
                        have c47b1 : (t347 != 0) = true := bne_iff_ne.mpr c47
                        obtain rfl := Option.some.inj H
                        have q65 : (t329 : Int) ≤ ((l0.length : Int) : Int) := of_decide_eq_true (by first | (with_reducible assumption) | assumption)
                        obtain ⟨i065, hi065, _, hsz65, _⟩ := info_parts info34
                        have hroom65 : l0.length ≤ c0 := HC0.out
                        have hC65 : Kd.C k34 _ A0 l0.length l0 := HR0.out
                        have hcut65 := cut_to (P := Tryz.prog) 22 34 .i64 Tryz.underlying22 hi065 A0 l0.length c0 t329 (of_decide_eq_true (by first | (with_reducible assumption) | assumption)) q65 hroom65
                        have hr65 := Kd.C_take (m := (t329 : Int).toNat) hC65 (by omega)
                        have hy65 : y338.length = (t329 : Int).toNat := (by rw [Ny338.out, List.length_take]; omega)
                        rw [← Ny338.out] at hr65
                        rw [← hy65] at hcut65
                        have HR341 := Aside0.mk hr65
                        have HC341 := Aside0.mk (show y338.length ≤ c0 from by omega)
                        clear hr65 hC65 hroom65 hi065 hsz65
                        have KY65 := Aside0.mk hy65
                        clear hy65
                        replace q65 := eq_true q65
                        go_wp2_with (first | ((with_reducible refine gate_callee (f := 12) rfl ?_); refine goesL_ (some 91) rfl rfl Tryz.func12 (by kernel_rfl) rfl #[.slice A0 y338.length c0] rfl (by (try simp only [List.map_toArray, List.map_cons, List.map_nil]); first | done | rfl | (simp only [List.length_drop, List.length_take]; rfl)) ?_; (with_reducible refine (hornbooklaw17_ours.calls kj18 _ _ y338 t342 _ ?side1 ?side2 A39.out).mono ?_); (case side1 => repeat (first | exact (Kd.C_below HR341.out HB.out) | (with_reducible refine Kd.C_alloc ?_ _) | (with_reducible refine Kd.C_drewN ?_ _) | (with_reducible refine Kd.C_drew ?_))); (case side2 => exact HC341.out); rintro e w66 ⟨v343, rfl, ho0, hb⟩; refine ⟨_, rfl, ?_⟩; have n0_ := Aside0.mk (Kd.R_lower ho0 (below_size (by repeat (first | (with_reducible first | exact HB.out | apply below_alloc | apply pw_below_drewN | apply below_drew1) | exact HB.out)))); have n1_ := Aside0.mk (below_step (by repeat (first | (with_reducible first | exact HB.out | apply below_alloc | apply pw_below_drewN | apply below_drew1) | exact HB.out)) hb); clear HB; have HO344 := n0_; have HB := n1_; clear n0_ n1_; (try clear hb); (try clear hb2); (try clear hk); (try clear hi); (try clear ho0); obtain ⟨Ao67, co67, eo67⟩ := Kd.R_slice HO344.out; subst eo67) | ((with_reducible refine gate_callee (f := 11) rfl ?_); refine goesL_ (some 92) rfl rfl Tryz.func11 (by kernel_rfl) rfl #[.int .i64 1, .slice Ao67 t342.length co67] rfl (by (try simp only [List.map_toArray, List.map_cons, List.map_nil]); first | done | rfl | (simp only [List.length_drop, List.length_take]; rfl)) ?_; (with_reducible refine (diff_Make.calls kj18 1 _ _ t342 t345 t346 t347 _ ?side1 ?side2 ?side3 A40.out).mono ?_); (case side1 => exact GW.below (by repeat (first | (with_reducible first | exact HB.out | apply below_alloc | apply pw_below_drewN | apply below_drew1) | exact HB.out)) HG.out); (case side2 => repeat (first | exact (Kd.R_reads' HO344.out).2.2 | (with_reducible refine Kd.C_alloc ?_ _) | (with_reducible refine Kd.C_drewN ?_ _) | (with_reducible refine Kd.C_drew ?_))); (case side3 => exact (Kd.R_reads' HO344.out).2.1); rintro e w68 ⟨v348, rfl, ho0, hb⟩; refine ⟨_, rfl, ?_⟩; have n0_ := Aside0.mk (Kd.R_below (by (with_reducible repeat (first | apply Kd.R_alloc | apply Kd.R_drewN | apply Kd.R_drew)); exact HO344.out) hb); have n1_ := Aside0.mk (Kd.R_lower ho0 (below_size (by repeat (first | (with_reducible first | exact HB.out | apply below_alloc | apply pw_below_drewN | apply below_drew1) | exact HB.out)))); have n2_ := Aside0.mk (below_step (by repeat (first | (with_reducible first | exact HB.out | apply below_alloc | apply pw_below_drewN | apply below_drew1) | exact HB.out)) hb); clear HO344; clear HB; have HO344 := n0_; have HO349 := n1_; have HB := n2_; clear n0_ n1_ n2_; (try clear hb); (try clear hb2); (try clear hk); (try clear hi); (try clear ho0); have q69 : ((ji41) : Int) ≤ ((l0.length : Int) : Int) := of_decide_eq_true (by first | (with_reducible assumption) | assumption); obtain ⟨i069, hi069, _, hsz69, _⟩ := info_parts info34; have hroom69 : l0.length ≤ c0 := HC0.out; have hC69 : Kd.C k34 _ A0 l0.length l0 := HR0.out; have hcut69 := cut_to (P := Tryz.prog) 22 34 .i64 Tryz.underlying22 hi069 A0 l0.length c0 (ji41) (of_decide_eq_true (by first | (with_reducible assumption) | assumption)) q69 hroom69; have hr69 := Kd.C_take (m := ((ji41) : Int).toNat) hC69 (by omega); have hy69 : y350.length = ((ji41) : Int).toNat := (by rw [Ny350.out, List.length_take]; omega); rw [← Ny350.out] at hr69; rw [← hy69] at hcut69; have HR353 := Aside0.mk hr69; have HC353 := Aside0.mk (show y350.length ≤ c0 from by omega); clear hr69 hC69 hroom69 hi069 hsz69; have KY69 := Aside0.mk hy69; clear hy69; replace q69 := eq_true q69) | ((with_reducible refine gate_callee (f := 12) rfl ?_); refine goesL_ (some 101) rfl rfl Tryz.func12 (by kernel_rfl) rfl #[.slice A0 y350.length c0] rfl (by (try simp only [List.map_toArray, List.map_cons, List.map_nil]); first | done | rfl | (simp only [List.length_drop, List.length_take]; rfl)) ?_; (with_reducible refine (hornbooklaw17_ours.calls kj18 _ _ y350 t354 _ ?side1 ?side2 A44.out).mono ?_); (case side1 => repeat (first | exact (Kd.C_below HR353.out HB.out) | (with_reducible refine Kd.C_alloc ?_ _) | (with_reducible refine Kd.C_drewN ?_ _) | (with_reducible refine Kd.C_drew ?_))); (case side2 => exact HC353.out); rintro e w70 ⟨v355, rfl, ho0, hb⟩; refine ⟨_, rfl, ?_⟩; have n0_ := Aside0.mk (Kd.R_elder' (by (with_reducible repeat (first | apply Kd.R_alloc | apply Kd.R_drewN | apply Kd.R_drew)); exact HO344.out) (Kd.R_base ho0) hb); have n1_ := Aside0.mk (Kd.R_below (by (with_reducible repeat (first | apply Kd.R_alloc | apply Kd.R_drewN | apply Kd.R_drew)); exact HO349.out) hb); have n2_ := Aside0.mk (Kd.R_lower (Kd.R_new' ho0 (Kd.R_lt (by (with_reducible repeat (first | apply Kd.R_alloc | apply Kd.R_drewN | apply Kd.R_drew)); exact HO344.out))) (below_size (by repeat (first | (with_reducible first | exact HB.out | apply below_alloc | apply pw_below_drewN | apply below_drew1) | exact HB.out)))); have n3_ := Aside0.mk (below_step (by repeat (first | (with_reducible first | exact HB.out | apply below_alloc | apply pw_below_drewN | apply below_drew1) | exact HB.out)) hb); clear HO344; clear HO349; clear HB; have HO344 := n0_; have HO349 := n1_; have HO356 := n2_; have HB := n3_; clear n0_ n1_ n2_ n3_; (try clear hb); (try clear hb2); (try clear hk); (try clear hi); (try clear ho0); obtain ⟨Ao71, co71, eo71⟩ := Kd.R_slice HO356.out; subst eo71) | ((with_reducible refine gate_callee (f := 11) rfl ?_); refine goesL_ (some 102) rfl rfl Tryz.func11 (by kernel_rfl) rfl #[.int .i64 1, .slice Ao71 t354.length co71] rfl (by (try simp only [List.map_toArray, List.map_cons, List.map_nil]); first | done | rfl | (simp only [List.length_drop, List.length_take]; rfl)) ?_; (with_reducible refine (diff_Make.calls kj18 1 _ _ t354 t357 t358 t359 _ ?side1 ?side2 ?side3 A45.out).mono ?_); (case side1 => exact GW.below (by repeat (first | (with_reducible first | exact HB.out | apply below_alloc | apply pw_below_drewN | apply below_drew1) | exact HB.out)) HG.out); (case side2 => repeat (first | exact (Kd.R_reads' HO356.out).2.2 | (with_reducible refine Kd.C_alloc ?_ _) | (with_reducible refine Kd.C_drewN ?_ _) | (with_reducible refine Kd.C_drew ?_))); (case side3 => exact (Kd.R_reads' HO356.out).2.1); rintro e w72 ⟨v360, rfl, ho0, hb⟩; refine ⟨_, rfl, ?_⟩; have n0_ := Aside0.mk (Kd.R_below (by (with_reducible repeat (first | apply Kd.R_alloc | apply Kd.R_drewN | apply Kd.R_drew)); exact HO344.out) hb); have n1_ := Aside0.mk (Kd.R_elder' (by (with_reducible repeat (first | apply Kd.R_alloc | apply Kd.R_drewN | apply Kd.R_drew)); exact HO349.out) (Kd.R_base ho0) hb); have n2_ := Aside0.mk (Kd.R_below (by (with_reducible repeat (first | apply Kd.R_alloc | apply Kd.R_drewN | apply Kd.R_drew)); exact HO356.out) hb); have n3_ := Aside0.mk (Kd.R_lower (Kd.R_new' ho0 (Kd.R_lt (by (with_reducible repeat (first | apply Kd.R_alloc | apply Kd.R_drewN | apply Kd.R_drew)); exact HO349.out))) (below_size (by repeat (first | (with_reducible first | exact HB.out | apply below_alloc | apply pw_below_drewN | apply below_drew1) | exact HB.out)))); have n4_ := Aside0.mk (below_step (by repeat (first | (with_reducible first | exact HB.out | apply below_alloc | apply pw_below_drewN | apply below_drew1) | exact HB.out)) hb); clear HO344; clear HO349; clear HO356; clear HB; have HO344 := n0_; have HO349 := n1_; have HO356 := n2_; have HO361 := n3_; have HB := n4_; clear n0_ n1_ n2_ n3_ n4_; (try clear hb); (try clear hb2); (try clear hk); (try clear hi); (try clear ho0)))
                        go_ret
                        exact ⟨by first | rfl | (simp [errW_none, errW_some] <;> rfl) | (simp only [← hji41]; first | rfl | (simp [errW_none, errW_some] <;> rfl)) | (simp [*, errW_none, errW_some] <;> rfl), by repeat (first | (with_reducible first | exact HB.out | apply below_alloc | apply pw_below_drewN | apply below_drew1) | exact HB.out)⟩
                    · replace c46 := Bool.eq_false_iff.mpr c46
                      subst c46
                      have H1 : (some false) = some r := by rw [if_neg (show ¬ (false = true) by decide)] at H; exact H
                      clear H
                      have H := H1
                      clear H1
                      obtain rfl := Option.some.inj H
                      have q73 : (t329 : Int) ≤ ((l0.length : Int) : Int) := of_decide_eq_true (by first | (with_reducible assumption) | assumption)
                      obtain ⟨i073, hi073, _, hsz73, _⟩ := info_parts info34
                      have hroom73 : l0.length ≤ c0 := HC0.out
                      have hC73 : Kd.C k34 _ A0 l0.length l0 := HR0.out
                      have hcut73 := cut_to (P := Tryz.prog) 22 34 .i64 Tryz.underlying22 hi073 A0 l0.length c0 t329 (of_decide_eq_true (by first | (with_reducible assumption) | assumption)) q73 hroom73
                      have hr73 := Kd.C_take (m := (t329 : Int).toNat) hC73 (by omega)
                      have hy73 : y338.length = (t329 : Int).toNat := (by rw [Ny338.out, List.length_take]; omega)
                      rw [← Ny338.out] at hr73
                      rw [← hy73] at hcut73
                      have HR341 := Aside0.mk hr73
                      have HC341 := Aside0.mk (show y338.length ≤ c0 from by omega)
                      clear hr73 hC73 hroom73 hi073 hsz73
                      have KY73 := Aside0.mk hy73
                      clear hy73
                      replace q73 := eq_true q73
                      go_wp2_with (first | ((with_reducible refine gate_callee (f := 12) rfl ?_); refine goesL_ (some 91) rfl rfl Tryz.func12 (by kernel_rfl) rfl #[.slice A0 y338.length c0] rfl (by (try simp only [List.map_toArray, List.map_cons, List.map_nil]); first | done | rfl | (simp only [List.length_drop, List.length_take]; rfl)) ?_; (with_reducible refine (hornbooklaw17_ours.calls kj18 _ _ y338 t342 _ ?side1 ?side2 A39.out).mono ?_); (case side1 => repeat (first | exact (Kd.C_below HR341.out HB.out) | (with_reducible refine Kd.C_alloc ?_ _) | (with_reducible refine Kd.C_drewN ?_ _) | (with_reducible refine Kd.C_drew ?_))); (case side2 => exact HC341.out); rintro e w74 ⟨v343, rfl, ho0, hb⟩; refine ⟨_, rfl, ?_⟩; have n0_ := Aside0.mk (Kd.R_lower ho0 (below_size (by repeat (first | (with_reducible first | exact HB.out | apply below_alloc | apply pw_below_drewN | apply below_drew1) | exact HB.out)))); have n1_ := Aside0.mk (below_step (by repeat (first | (with_reducible first | exact HB.out | apply below_alloc | apply pw_below_drewN | apply below_drew1) | exact HB.out)) hb); clear HB; have HO344 := n0_; have HB := n1_; clear n0_ n1_; (try clear hb); (try clear hb2); (try clear hk); (try clear hi); (try clear ho0); obtain ⟨Ao75, co75, eo75⟩ := Kd.R_slice HO344.out; subst eo75) | ((with_reducible refine gate_callee (f := 11) rfl ?_); refine goesL_ (some 92) rfl rfl Tryz.func11 (by kernel_rfl) rfl #[.int .i64 1, .slice Ao75 t342.length co75] rfl (by (try simp only [List.map_toArray, List.map_cons, List.map_nil]); first | done | rfl | (simp only [List.length_drop, List.length_take]; rfl)) ?_; (with_reducible refine (diff_Make.calls kj18 1 _ _ t342 t345 t346 t347 _ ?side1 ?side2 ?side3 A40.out).mono ?_); (case side1 => exact GW.below (by repeat (first | (with_reducible first | exact HB.out | apply below_alloc | apply pw_below_drewN | apply below_drew1) | exact HB.out)) HG.out); (case side2 => repeat (first | exact (Kd.R_reads' HO344.out).2.2 | (with_reducible refine Kd.C_alloc ?_ _) | (with_reducible refine Kd.C_drewN ?_ _) | (with_reducible refine Kd.C_drew ?_))); (case side3 => exact (Kd.R_reads' HO344.out).2.1); rintro e w76 ⟨v348, rfl, ho0, hb⟩; refine ⟨_, rfl, ?_⟩; have n0_ := Aside0.mk (Kd.R_below (by (with_reducible repeat (first | apply Kd.R_alloc | apply Kd.R_drewN | apply Kd.R_drew)); exact HO344.out) hb); have n1_ := Aside0.mk (Kd.R_lower ho0 (below_size (by repeat (first | (with_reducible first | exact HB.out | apply below_alloc | apply pw_below_drewN | apply below_drew1) | exact HB.out)))); have n2_ := Aside0.mk (below_step (by repeat (first | (with_reducible first | exact HB.out | apply below_alloc | apply pw_below_drewN | apply below_drew1) | exact HB.out)) hb); clear HO344; clear HB; have HO344 := n0_; have HO349 := n1_; have HB := n2_; clear n0_ n1_ n2_; (try clear hb); (try clear hb2); (try clear hk); (try clear hi); (try clear ho0); have q77 : ((ji41) : Int) ≤ ((l0.length : Int) : Int) := of_decide_eq_true (by first | (with_reducible assumption) | assumption); obtain ⟨i077, hi077, _, hsz77, _⟩ := info_parts info34; have hroom77 : l0.length ≤ c0 := HC0.out; have hC77 : Kd.C k34 _ A0 l0.length l0 := HR0.out; have hcut77 := cut_to (P := Tryz.prog) 22 34 .i64 Tryz.underlying22 hi077 A0 l0.length c0 (ji41) (of_decide_eq_true (by first | (with_reducible assumption) | assumption)) q77 hroom77; have hr77 := Kd.C_take (m := ((ji41) : Int).toNat) hC77 (by omega); have hy77 : y350.length = ((ji41) : Int).toNat := (by rw [Ny350.out, List.length_take]; omega); rw [← Ny350.out] at hr77; rw [← hy77] at hcut77; have HR353 := Aside0.mk hr77; have HC353 := Aside0.mk (show y350.length ≤ c0 from by omega); clear hr77 hC77 hroom77 hi077 hsz77; have KY77 := Aside0.mk hy77; clear hy77; replace q77 := eq_true q77) | ((with_reducible refine gate_callee (f := 12) rfl ?_); refine goesL_ (some 101) rfl rfl Tryz.func12 (by kernel_rfl) rfl #[.slice A0 y350.length c0] rfl (by (try simp only [List.map_toArray, List.map_cons, List.map_nil]); first | done | rfl | (simp only [List.length_drop, List.length_take]; rfl)) ?_; (with_reducible refine (hornbooklaw17_ours.calls kj18 _ _ y350 t354 _ ?side1 ?side2 A44.out).mono ?_); (case side1 => repeat (first | exact (Kd.C_below HR353.out HB.out) | (with_reducible refine Kd.C_alloc ?_ _) | (with_reducible refine Kd.C_drewN ?_ _) | (with_reducible refine Kd.C_drew ?_))); (case side2 => exact HC353.out); rintro e w78 ⟨v355, rfl, ho0, hb⟩; refine ⟨_, rfl, ?_⟩; have n0_ := Aside0.mk (Kd.R_elder' (by (with_reducible repeat (first | apply Kd.R_alloc | apply Kd.R_drewN | apply Kd.R_drew)); exact HO344.out) (Kd.R_base ho0) hb); have n1_ := Aside0.mk (Kd.R_below (by (with_reducible repeat (first | apply Kd.R_alloc | apply Kd.R_drewN | apply Kd.R_drew)); exact HO349.out) hb); have n2_ := Aside0.mk (Kd.R_lower (Kd.R_new' ho0 (Kd.R_lt (by (with_reducible repeat (first | apply Kd.R_alloc | apply Kd.R_drewN | apply Kd.R_drew)); exact HO344.out))) (below_size (by repeat (first | (with_reducible first | exact HB.out | apply below_alloc | apply pw_below_drewN | apply below_drew1) | exact HB.out)))); have n3_ := Aside0.mk (below_step (by repeat (first | (with_reducible first | exact HB.out | apply below_alloc | apply pw_below_drewN | apply below_drew1) | exact HB.out)) hb); clear HO344; clear HO349; clear HB; have HO344 := n0_; have HO349 := n1_; have HO356 := n2_; have HB := n3_; clear n0_ n1_ n2_ n3_; (try clear hb); (try clear hb2); (try clear hk); (try clear hi); (try clear ho0); obtain ⟨Ao79, co79, eo79⟩ := Kd.R_slice HO356.out; subst eo79) | ((with_reducible refine gate_callee (f := 11) rfl ?_); refine goesL_ (some 102) rfl rfl Tryz.func11 (by kernel_rfl) rfl #[.int .i64 1, .slice Ao79 t354.length co79] rfl (by (try simp only [List.map_toArray, List.map_cons, List.map_nil]); first | done | rfl | (simp only [List.length_drop, List.length_take]; rfl)) ?_; (with_reducible refine (diff_Make.calls kj18 1 _ _ t354 t357 t358 t359 _ ?side1 ?side2 ?side3 A45.out).mono ?_); (case side1 => exact GW.below (by repeat (first | (with_reducible first | exact HB.out | apply below_alloc | apply pw_below_drewN | apply below_drew1) | exact HB.out)) HG.out); (case side2 => repeat (first | exact (Kd.R_reads' HO356.out).2.2 | (with_reducible refine Kd.C_alloc ?_ _) | (with_reducible refine Kd.C_drewN ?_ _) | (with_reducible refine Kd.C_drew ?_))); (case side3 => exact (Kd.R_reads' HO356.out).2.1); rintro e w80 ⟨v360, rfl, ho0, hb⟩; refine ⟨_, rfl, ?_⟩; have n0_ := Aside0.mk (Kd.R_below (by (with_reducible repeat (first | apply Kd.R_alloc | apply Kd.R_drewN | apply Kd.R_drew)); exact HO344.out) hb); have n1_ := Aside0.mk (Kd.R_elder' (by (with_reducible repeat (first | apply Kd.R_alloc | apply Kd.R_drewN | apply Kd.R_drew)); exact HO349.out) (Kd.R_base ho0) hb); have n2_ := Aside0.mk (Kd.R_below (by (with_reducible repeat (first | apply Kd.R_alloc | apply Kd.R_drewN | apply Kd.R_drew)); exact HO356.out) hb); have n3_ := Aside0.mk (Kd.R_lower (Kd.R_new' ho0 (Kd.R_lt (by (with_reducible repeat (first | apply Kd.R_alloc | apply Kd.R_drewN | apply Kd.R_drew)); exact HO349.out))) (below_size (by repeat (first | (with_reducible first | exact HB.out | apply below_alloc | apply pw_below_drewN | apply below_drew1) | exact HB.out)))); have n4_ := Aside0.mk (below_step (by repeat (first | (with_reducible first | exact HB.out | apply below_alloc | apply pw_below_drewN | apply below_drew1) | exact HB.out)) hb); clear HO344; clear HO349; clear HO356; clear HB; have HO344 := n0_; have HO349 := n1_; have HO356 := n2_; have HO361 := n3_; have HB := n4_; clear n0_ n1_ n2_ n3_ n4_; (try clear hb); (try clear hb2); (try clear hk); (try clear hi); (try clear ho0)))
                      go_ret
                      exact ⟨by first | rfl | (simp [errW_none, errW_some] <;> rfl) | (simp only [← hji41]; first | rfl | (simp [errW_none, errW_some] <;> rfl)) | (simp [*, errW_none, errW_some] <;> rfl), by repeat (first | (with_reducible first | exact HB.out | apply below_alloc | apply pw_below_drewN | apply below_drew1) | exact HB.out)⟩
                  · rw [if_neg c43] at H
                    exact absurd H (by simp)
                · rw [if_neg c42] at H
                  exact absurd H (by simp)
              · rw [if_neg c38] at H
                exact absurd H (by simp)
            · rw [if_neg c37] at H
              exact absurd H (by simp)
  · replace c4 := Bool.eq_false_iff.mpr c4
    subst c4
    have H1 : (some t323) = some r := by rw [if_neg (show ¬ (false = true) by decide)] at H; exact H
    clear H
    have H := H1
    clear H1
    obtain rfl := Option.some.inj H
    go_enter Tryz.func4, Tryz.ntmps4
    go_wp2_with (first | ((with_reducible refine gate_callee (f := 9) rfl ?_); refine goesL_ (some 14) rfl rfl Tryz.func9 (by kernel_rfl) rfl #[] rfl (by (try simp only [List.map_toArray, List.map_cons, List.map_nil]); first | done | rfl | (simp only [List.length_drop, List.length_take]; rfl)) ?_; (with_reducible refine (hornbooklaw17_awake.calls k  t323 _ ?side1 A2.out).mono ?_); (case side1 => exact GW.below (by repeat (first | (with_reducible first | exact HB.out | apply below_alloc | apply pw_below_drewN | apply below_drew1) | exact HB.out)) HG.out); rintro e w81 ⟨rfl, hb⟩; refine ⟨_, rfl, ?_⟩; have n0_ := Aside0.mk (below_step (by repeat (first | (with_reducible first | exact HB.out | apply below_alloc | apply pw_below_drewN | apply below_drew1) | exact HB.out)) hb); clear HB; have HB := n0_; clear n0_; (try clear hb); (try clear hb2); (try clear hk); (try clear hi)) | ((with_reducible refine gate_callee (f := 10) rfl ?_); refine goesL_ (some 16) rfl rfl Tryz.func10 (by kernel_rfl) rfl #[.slice A0 l0.length c0] rfl (by (try simp only [List.map_toArray, List.map_cons, List.map_nil]); first | done | rfl | (simp only [List.length_drop, List.length_take]; rfl)) ?_; (with_reducible refine (hornbookref17_Few.calls k _ _ l0 false _ ?side1 ?side2 A3.out).mono ?_); (case side1 => repeat (first | exact (Kd.C_below HR0.out HB.out) | (with_reducible refine Kd.C_alloc ?_ _) | (with_reducible refine Kd.C_drewN ?_ _) | (with_reducible refine Kd.C_drew ?_))); (case side2 => exact HC0.out); rintro e w' ⟨rfl, ⟨nd, rfl⟩⟩; refine ⟨_, rfl, ?_⟩))
    go_ret
    exact ⟨by first | rfl | (simp [errW_none, errW_some] <;> rfl) | (simp [*, errW_none, errW_some] <;> rfl), by repeat (first | (with_reducible first | exact HB.out | apply below_alloc | apply pw_below_drewN | apply below_drew1) | exact HB.out)⟩
/-- THE ONE PURE STATEMENT of hornbooklaw17_DiffErrors: yours. -/
def hornbooklaw17_DiffErrors.Pure : Prop := ∀ (l0 : List (S34)), l0.length ≤ maxLen → l0.length * 32 ≤ 140737488351232 → (∀ z ∈ l0, (True ∧ (Lit.int .i64 z.f1).wf = true ∧ z.f2.size ≤ 140737488351232)) → ∃ k, hornbooklaw17_DiffErrors.f k l0 = some true
theorem hornbooklaw17_DiffErrors.walk (P : hornbooklaw17_DiffErrors.Pure) (a0 : Option Addr) (cap0 : Nat) (l0 : List (S34)) (w : World) (hr0 : Kd.C k34 w a0 l0.length l0) (hc0 : l0.length ≤ cap0) (w0 : l0.length ≤ maxLen) (y0 : l0.length * 32 ≤ 140737488351232) (q0 : ∀ z ∈ l0, (True ∧ (Lit.int .i64 z.f1).wf = true ∧ z.f2.size ≤ 140737488351232))(hG : GW w) :
    Calls Tryz.prog 4 #[.slice a0 l0.length cap0] w fun e w' => e = .returned (.bool true) ∧ Below w.heap.size w w' := by
  obtain ⟨k, h⟩ := P l0 w0 y0 q0
  refine (hornbooklaw17_DiffErrors.calls k _ _ l0 true w hG hr0 hc0 h).mono ?_
  rintro e w' ⟨rfl, hd⟩
  exact ⟨rfl, hd⟩
end Go.Proofs.YtdcldaknmenklaaGreatDoor.M
end
section
namespace Go.Proofs.YtdcldaknmenklaaGreatDoor.M
open Go Go.RowKit
variable {H : Type} {enc : TypeId × Value → H}
theorem returns_both {a : Assume} {C : Checked} {os : Os} {f : FuncId} {fn : Func} {s : ChangeSpec} {conds : List PathCond} {apart fresh handsOn again : Bool} {X : World → Array Value → Prop}
    (hX : ∀ (w w' : World) (args : Array Value), w.heap = w'.heap → X w args → X w' args)
    (own : ownKnob C.prog.godebug = none) (started : os.Started) (noInit : C.prog.inits.idxOf? f = none) (hfn : C.prog.funcs[f]? = some fn)
    (witness : ∃ (w : World) (tape : Tape) (i : Input), w.os = os ∧ (w.forCall tape i).Shaped C.prog ∧ i.vars = [] ∧ Input.okWide C.prog (w.forCall tape i) .any w.heap.size f i ∧
      ((s.pre enc C.prog fn conds apart (w.forCall tape i).memory i.args ∧ X (w.forCall tape i).memory i.args) ∧ sizedMet enc C.prog fn (OpenSpec.ofChange s) apart (w.forCall tape i).memory i.args) ∧ a.holds C.prog (lone (Frame.enter C.prog f i.args .normal) [] (w.forCall tape i)))
    (contract : ∀ (W : World) (base : Nat) (args : Array Value) (ds gs : List (DataW H)) (before : List MemPlace),
      (∀ (j : Nat) t v, fn.params[j]? = some t → args[j]? = some v → Value.okWide C.prog W .any base t v) →
      DataW.Whole enc C.prog fn.params.toList s.vars apart W args.toList ds gs before →
      conds.all (PathCond.test C.prog ⟨fn.params.toList, ds, s.plain.varTypes C.prog, gs⟩) = true →
      (DataW.weightsEach C.prog (fn.params.toList ++ s.plain.varTypes C.prog) (ds ++ gs)).all (· ≤ reachBytes) = true → X W args → W.ShapedOpen C.prog →
      Calls C.prog f args W fun e W' => ∃ v, e = .returned v ∧ s.post enc C.prog fn apart fresh handsOn again W args v W') :
    ReturnsInHanded a C os f .any (fun w args => (s.pre enc C.prog fn conds apart w args ∧ X w args) ∧ sizedMet enc C.prog fn (OpenSpec.ofChange s) apart w args) (s.post enc C.prog fn apart fresh handsOn again) := by
  refine returnsInHanded_of_calls own started noInit witness ?_
  intro w tape i _ hsh _ hok hpre hholds
  obtain ⟨_, _, _, fn', hfn', _, _, _, _, hval⟩ := hok
  have e : fn' = fn := Option.some.inj (hfn'.symm.trans hfn)
  subst e
  obtain ⟨⟨⟨ds, gs, before, hw, hc⟩, hx⟩, hz⟩ := hpre
  have hw' := DataW.Whole.of_heap (w' := w.forCall tape i) (by rfl) hw
  refine (contract (w.forCall tape i) w.heap.size i.args ds gs before hval hw' hc (hz.weights hw) (hX _ _ _ (by rfl) hx) hsh).mono fun e W' ⟨v, he, hp⟩ => ?_
  subst he
  exact ChangeSpec.post_blind hp
theorem gw_star : "*" ++ "errors.errorString" = "*errors.errorString" := by decide
theorem gw_row (u : TypeId) (h : Tryz.prog.typeName? 3 u = some "*errors.errorString") : u = 212 :=
  typeName_ptr_named (nm := "errors.errorString") (by rw [gw_star]; kernel_rfl) (by kernel_rfl) (by decide) u (by rw [gw_star]; exact h)
/-- Out of a row's 'laid', from the two sentinels on, and the world's shape. -/
theorem GW.of_mets {r1 r2 : List (String × DataW Unit)} {t1 t2 : List UInt8} {W : World}
    (h1 : laidMet Tryz.prog (("strconv.ErrRange", .iface "*errors.errorString" (.ptr (.agg [.lit (.string t1)]))) :: r1) W)
    (h2 : laidMet Tryz.prog (("strconv.ErrSyntax", .iface "*errors.errorString" (.ptr (.agg [.lit (.string t2)]))) :: r2) W)
    {r3 : List (String × DataW Unit)} (h3 : laidMet Tryz.prog (("strings.asciiSpace", Rows.laid_strings_asciiSpace) :: r3) W)
    {r4 : List (String × DataW Unit)} (h4 : laidMet Tryz.prog (("internal/strconv.uint64pow10", Rows.laid_internal_strconv_uint64pow10) :: r4) W)
    (hsh : W.ShapedOpen Tryz.prog) : GW W := by
  obtain ⟨a0, s0, hv0, -, -, -⟩ := laid_sentinel h1 (g := 1) (ti := 83) (by kernel_rfl) (by kernel_rfl) Tryz.underlying83 gw_row Tryz.underlying212 Tryz.underlying214 rfl rfl Tryz.underlying9 (by kernel_rfl) (by kernel_rfl)
  obtain ⟨a1, s1, hv1, -, -, -⟩ := laid_sentinel h2 (g := 5) (ti := 83) (by kernel_rfl) (by kernel_rfl) Tryz.underlying83 gw_row Tryz.underlying212 Tryz.underlying214 rfl rfl Tryz.underlying9 (by kernel_rfl) (by kernel_rfl)
  have c0 := World.var?_cell (P := Tryz.prog) (g := 1) (by kernel_rfl) hv0 0
  have c1 := World.var?_cell (P := Tryz.prog) (g := 5) (by kernel_rfl) hv1 0
  obtain ⟨m, hm⟩ := cell_of_shapedOpen_int (P := Tryz.prog) (g := 2) (t := 3) (zero := #[.int .i64 0]) hsh (of_decide_eq_true (by kernel_rfl)) (by kernel_rfl) rfl (by kernel_rfl) (by kernel_rfl) Tryz.underlying3
  have e3 : (Rows.laid_strings_asciiSpace : DataW Unit) = Lib.tabData .u8 Lib.asciiSpaceTab := by kernel_rfl
  rw [e3] at h3
  have hsp : Lib.TabIs Tryz.prog W "strings.asciiSpace" .u8 Lib.asciiSpaceTab := Lib.tabIs_of_head (g := 0) (by kernel_rfl) (by kernel_rfl) Tryz.underlying130 Tryz.underlying5 (by kernel_rfl) (by kernel_rfl) h3
  have e4 : (Rows.laid_internal_strconv_uint64pow10 : DataW Unit) = Lib.tabData .u64 Lib.pow10Tab := by kernel_rfl
  rw [e4] at h4
  have hpow : Lib.TabIs Tryz.prog W "internal/strconv.uint64pow10" .u64 Lib.pow10Tab := Lib.tabIs_of_head (g := 3) (by kernel_rfl) (by kernel_rfl) Tryz.underlying144 Tryz.underlying125 (by kernel_rfl) (by kernel_rfl) h4
  exact {
    range := ⟨a0, by simpa using c0⟩
    syn := ⟨a1, by simpa using c1⟩
    max := ⟨m, hm⟩
    space := hsp
    pow := hpow
  }
end Go.Proofs.YtdcldaknmenklaaGreatDoor.M
end
section
namespace Go.Proofs.YtdcldaknmenklaaGreatDoor.M
open Go.RowKit Go.Proofs.YtdcldaknmenklaaGreatDoorW.PrintWords
set_option linter.unusedVariables false
set_option linter.unusedSimpArgs false
def toE (x : S34) : S32 := ⟨x.f0, x.f1, x.f2⟩
theorem rdE (l : List S34) (i : Nat) (h : i < l.length) : rd_T34 l (i : Int) = l[i] := by
  unfold rd_T34
  rw [Int.toNat_natCast, List.getD_eq_getElem?_getD, List.getElem?_eq_getElem h]
  rfl
theorem few_loop (l : List S34) (d : Nat) : ∀ (i k : Nat), 600 - i = d → i ≤ 600 → i ≤ l.length → (∀ x ∈ l.take i, x.f2.size ≤ 100) → 2 * d + 2 ≤ k →
    ∃ b, hornbookref17_Few.l0 k l (i : Int) = some b ∧ (b = true → l.length ≤ 600 ∧ ∀ x ∈ l, x.f2.size ≤ 100) := by
  have last : ∀ (i k : Nat), i ≤ l.length → (∀ x ∈ l.take i, x.f2.size ≤ 100) → (i = l.length ∨ 600 ≤ i) → ∃ b, hornbookref17_Few.j1 (k + 1) l (i : Int) false = some b ∧ (b = true → l.length ≤ 600 ∧ ∀ x ∈ l, x.f2.size ≤ 100) := by
    intro i k hi hx hc
    rw [hornbookref17_Few.j1, if_neg (by decide)]
    refine ⟨_, rfl, fun hb => ?_⟩
    have hl : l.length ≤ 600 := by have := of_decide_eq_true hb; omega
    refine ⟨hl, ?_⟩
    rwa [List.take_of_length_le (by omega)] at hx
  induction d with
  | zero =>
    intro i k hd h6 hi hx hk
    obtain ⟨k, rfl⟩ : ∃ k', k = k' + 2 := ⟨k - 2, by omega⟩
    have : i = 600 := by omega
    rw [hornbookref17_Few.l0]
    by_cases hl : (i : Int) < (l.length : Int)
    · rw [if_pos hl, decide_eq_false (show ¬ (i : Int) < 600 by omega)]
      exact last i k hi hx (.inr (by omega))
    · rw [if_neg hl]
      exact last i k hi hx (.inr (by omega))
  | succ d ih =>
    intro i k hd h6 hi hx hk
    obtain ⟨k, rfl⟩ : ∃ k', k = k' + 2 := ⟨k - 2, by omega⟩
    rw [hornbookref17_Few.l0]
    by_cases hl : i < l.length
    · rw [if_pos (by omega), decide_eq_true (show (i : Int) < 600 by omega), hornbookref17_Few.j1, if_pos rfl, if_pos (by omega), if_pos (by omega), rdE l i hl]
      by_cases hs : (l[i].f2.size : Int) > 100
      · rw [if_pos hs]
        exact ⟨false, rfl, fun h => by cases h⟩
      · rw [if_neg hs, wrap_small (by omega) (by omega), show (i : Int) + 1 = ((i + 1 : Nat) : Int) by omega]
        refine ih (i + 1) k (by omega) (by omega) (by omega) ?_ (by omega)
        intro x hx2
        rw [List.take_succ_eq_append_getElem hl, List.mem_append] at hx2
        rcases hx2 with h | h
        · exact hx x h
        · rw [List.mem_singleton] at h
          subst h
          omega
    · rw [if_neg (by omega)]
      exact last i k hi hx (.inl (by omega))
theorem few_eq (l : List S34) {k : Nat} (hk : 1300 ≤ k) : ∃ b, hornbookref17_Few.f k l = some b ∧ (b = true → l.length ≤ 600 ∧ ∀ x ∈ l, x.f2.size ≤ 100) := by
  unfold hornbookref17_Few.f
  exact few_loop l 600 0 k rfl (by omega) (Nat.zero_le _) (by simp) (by omega)
theorem ours_loop (l : List S34) (hn : l.length ≤ 100000) (d : Nat) : ∀ (i k : Nat) (acc : List S32), l.length - i = d → i ≤ l.length → acc.length = i → d + 1 ≤ k →
    hornbooklaw17_ours.l0 k l acc (i : Int) = some (acc ++ (l.drop i).map toE) := by
  induction d with
  | zero =>
    intro i k acc hd hi ha hk
    obtain ⟨k, rfl⟩ : ∃ k', k = k' + 1 := ⟨k - 1, by omega⟩
    rw [hornbooklaw17_ours.l0, if_neg (by omega), List.drop_eq_nil_of_le (by omega), List.map_nil, List.append_nil]
  | succ d ih =>
    intro i k acc hd hi ha hk
    obtain ⟨k, rfl⟩ : ∃ k', k = k' + 1 := ⟨k - 1, by omega⟩
    have hlt : i < l.length := by omega
    rw [hornbooklaw17_ours.l0, if_pos (by omega), if_pos (by omega), if_pos (by omega), rdE l i hlt, wrap_small (by omega) (by omega)]
    have := ih (i + 1) k (acc ++ [toE l[i]]) (by omega) (by omega) (by rw [List.length_append, List.length_singleton, ha]) (by omega)
    rw [List.drop_eq_getElem_cons hlt, List.map_cons, show (i : Int) + 1 = ((i + 1 : Nat) : Int) by omega]
    unfold toE at this ⊢
    rw [this, List.append_assoc]
    rfl
theorem ours_eq (l : List S34) (hn : l.length ≤ 100000) {k : Nat} (hk : l.length + 1 ≤ k) : hornbooklaw17_ours.f k l = some (l.map toE) := by
  unfold hornbooklaw17_ours.f
  have := ours_loop l hn l.length 0 k [] rfl (Nat.zero_le _) rfl hk
  rw [List.drop_zero, List.nil_append] at this
  exact this
end Go.Proofs.YtdcldaknmenklaaGreatDoor.M
end
section
namespace Go.Proofs.YtdcldaknmenklaaGreatDoor.M
open Go.RowKit Go.Proofs.YtdcldaknmenklaaGreatDoorW.PrintWords
set_option linter.unusedVariables false
def encThere (t : Int) : Bool := match encOf 500 t with
  | some a => decide (t = 1 → (rdOf ByteArray.empty a 67).data.toList = [67])
  | none => false
set_option maxRecDepth 100000 in
theorem encThere_0 : encThere 0 = true := by decide +kernel
set_option maxRecDepth 100000 in
theorem encThere_1 : encThere 1 = true := by decide +kernel
set_option maxRecDepth 100000 in
theorem encThere_2 : encThere 2 = true := by decide +kernel
set_option maxRecDepth 100000 in
theorem encThere_3 : encThere 3 = true := by decide +kernel
theorem enc_there (t : Int) (h0 : 0 ≤ t) (h1 : t < 4) : ∃ L : List ByteArray, L.length = 256 ∧ (∀ k, 500 ≤ k → enc_All.f k t = some L) ∧ (t = 1 → (rdOf ByteArray.empty L 67).data.toList = [67]) := by
  have h : encThere t = true := by
    have : t = 0 ∨ t = 1 ∨ t = 2 ∨ t = 3 := by omega
    rcases this with rfl | rfl | rfl | rfl
    · exact encThere_0
    · exact encThere_1
    · exact encThere_2
    · exact encThere_3
  unfold encThere at h
  split at h
  · rename_i a ha
    refine ⟨a, encOf_length ha, fun k hk => ?_, fun e => of_decide_eq_true h e⟩
    unfold enc_All.f
    rw [if_pos ⟨h0, h1⟩]
    exact le_rounds (g := fun k => encOf k t) (fun k => encOf_mono t k) ha hk
  · cases h
/-- What is made of entries over an encoding. -/
theorem make_eq (t : Int) (h0 : 0 ≤ t) (h1 : t < 4) : ∃ L : List ByteArray, L.length = 256 ∧ (∀ k, 500 ≤ k → ∀ l : List S32, l.length ≤ 1000000 → diff_Make.f k t l = some (applyOut (runG (L, -1) 0 (l.map enOf)))) ∧ (t = 1 → (rdOf ByteArray.empty L 67).data.toList = [67]) := by
  obtain ⟨L, hL, he, hc⟩ := enc_there t h0 h1
  refine ⟨L, hL, fun k hk l hl => ?_, hc⟩
  unfold diff_Make.f diff_Apply.f
  rw [he k hk, Option.bind_some, if_pos hL, if_pos hl, Option.bind_some]
theorem applyOut_ok (s : St) : applyOut (.ok s) = (s.1, 0, 0) := rfl
theorem applyOut_err (p : Nat) (e : Int) : applyOut (.error (p, e)) = ([], (p : Int), e) := rfl
def enL (x : S32) : Bool × Int × List UInt8 := (x.f0, x.f1, x.f2.data.toList)
def exE : List S32 := [⟨true, 65, ⟨#[]⟩⟩, ⟨false, 0, ⟨#[66]⟩⟩, ⟨false, 0, ⟨#[67]⟩⟩, ⟨true, 97, ⟨#[]⟩⟩, ⟨false, 0, ⟨#[97]⟩⟩]
theorem enL_inj {a b : List S32} (h : a.map enL = b.map enL) : a = b := by
  have e : ∀ l : List S32, (l.map enL).map (fun y => (⟨y.1, y.2.1, ⟨y.2.2.toArray⟩⟩ : S32)) = l := by
    intro l
    rw [List.map_map]
    conv => rhs; rw [← List.map_id l]
    exact List.map_congr_left fun x _ => by rcases x with ⟨a, b, ⟨c⟩⟩; rfl
  rw [← e a, ← e b, h]
def exB : ByteArray := ⟨#[91, 32, 54, 53, 32, 47, 66, 32, 47, 67, 32, 57, 55, 32, 47, 97, 32, 93]⟩
def exParse : Bool := match diff_Parse.f 400 exB with
  | some r => decide (r.1.map enL = exE.map enL) && decide (r.2 = (18, 0))
  | none => false
def exText : Bool := match diff_Text.f exE with
  | some r => decide (r.data.toList = exB.data.toList)
  | none => false
set_option maxRecDepth 100000 in
theorem exParse_ok : exParse = true := by decide +kernel
set_option maxRecDepth 100000 in
theorem exText_ok : exText = true := by decide +kernel
theorem ex_parse {k : Nat} (hk : 400 ≤ k) : diff_Parse.f k exB = some (exE, 18, 0) := by
  have h := exParse_ok
  unfold exParse at h
  split at h
  · rename_i r hr
    simp only [Bool.and_eq_true, decide_eq_true_eq] at h
    refine le_rounds (g := fun k => diff_Parse.f k exB) (fun k => diff_Parse.mono _ k) ?_ hk
    show diff_Parse.f 400 exB = _
    rw [hr]
    rcases r with ⟨r1, r2⟩
    have h1 : r1 = exE := enL_inj h.1
    have h2 : r2 = (18, 0) := h.2
    rw [h1, h2]
  · cases h
theorem ex_text : ∃ r, diff_Text.f exE = some r ∧ r.data.toList = exB.data.toList := by
  have h := exText_ok
  unfold exText at h
  split at h
  · rename_i r hr
    exact ⟨r, hr, of_decide_eq_true h⟩
  · cases h
theorem awake17 {k : Nat} (hk : 500 ≤ k) : hornbooklaw17_awake.f k = some true := by
  unfold hornbooklaw17_awake.f
  obtain ⟨L, hL, hm, hc⟩ := make_eq 1 (by decide) (by decide)
  obtain ⟨r, hr, hr2⟩ := ex_text
  have hp := ex_parse (k := k) (by omega)
  unfold exB at hp
  rw [hp, Option.bind_some, hm k hk exE (by decide), Option.bind_some]
  have hrun : runG (L, -1) 0 (exE.map enOf) = .ok (((L.set 65 ⟨#[66]⟩).set 66 ⟨#[67]⟩).set 97 ⟨#[97]⟩, 98) := by
    simp [exE, enOf, runG, stepG]
  have hc2 : (rdOf ByteArray.empty L 67).toList = [67] := by rw [toList_data, hc rfl]
  have hlen : (((L.set 65 ⟨#[66]⟩).set 66 ⟨#[67]⟩).set 97 ⟨#[97]⟩).length = 256 := by simp [hL]
  have g65 : rdOf ByteArray.empty (((L.set 65 ⟨#[66]⟩).set 66 ⟨#[67]⟩).set 97 ⟨#[97]⟩) 65 = ⟨#[66]⟩ := by
    unfold rdOf
    rw [show (65 : Int).toNat = 65 from rfl, List.getD_eq_getElem?_getD, List.getElem?_set_ne (by decide), List.getElem?_set_ne (by decide), List.getElem?_set_self (by omega)]
    rfl
  have g66 : rdOf ByteArray.empty (((L.set 65 ⟨#[66]⟩).set 66 ⟨#[67]⟩).set 97 ⟨#[97]⟩) 66 = ⟨#[67]⟩ := by
    unfold rdOf
    rw [show (66 : Int).toNat = 66 from rfl, List.getD_eq_getElem?_getD, List.getElem?_set_ne (by decide), List.getElem?_set_self (by rw [List.length_set]; omega)]
    rfl
  have g67 : rdOf ByteArray.empty (((L.set 65 ⟨#[66]⟩).set 66 ⟨#[67]⟩).set 97 ⟨#[97]⟩) 67 = rdOf ByteArray.empty L 67 := by
    unfold rdOf
    rw [show (67 : Int).toNat = 67 from rfl, List.getD_eq_getElem?_getD, List.getElem?_set_ne (by decide), List.getElem?_set_ne (by decide), List.getElem?_set_ne (by decide), List.getD_eq_getElem?_getD]
  rw [hrun, applyOut_ok]
  dsimp only
  rw [if_pos rfl, if_pos rfl, if_pos rfl, hlen, if_pos (show ((256 : Nat) : Int) = 256 from rfl), if_pos (by decide), g65, if_pos (by rw [toList_data]), if_pos (by decide), g66, if_pos (by rw [toList_data]), if_pos (by decide), g67, if_pos hc2, hr, Option.bind_some, toList_data, hr2]
  rfl
end Go.Proofs.YtdcldaknmenklaaGreatDoor.M
end
section
namespace Go.Proofs.YtdcldaknmenklaaGreatDoor.M
open Go.RowKit Go.Proofs.YtdcldaknmenklaaGreatDoorW.PrintWords
set_option linter.unusedVariables false
theorem enOf_toE (l : List S34) (i : Nat) : ((l.map toE).map enOf).length = l.length ∧ ((l.take i).map toE).map enOf = (((l.map toE).map enOf).take i) := by
  constructor
  · rw [List.length_map, List.length_map]
  · rw [List.map_take, List.map_take]
theorem errors_loop (l : List S34) (hl : l.length ≤ 600) (hx : ∀ x ∈ l, x.f0 = true → 0 ≤ x.f1 ∧ x.f1 ≤ 255) (d : Nat) : ∀ (i k : Nat), l.length - i = d → i ≤ l.length → d < k → hornbooklaw17_DiffErrors.l0 k l true 0 (i : Int) = some true := by
  induction d with
  | zero =>
    intro i k hd hi hk
    obtain ⟨k, rfl⟩ : ∃ m, k = m + 1 := ⟨k - 1, by omega⟩
    rw [hornbooklaw17_DiffErrors.l0, if_neg (by omega), if_pos rfl]
    rfl
  | succ d ih =>
    intro i k hd hi hk
    obtain ⟨k, rfl⟩ : ∃ m, k = m + 1 := ⟨k - 1, by omega⟩
    have hlt : i < l.length := by omega
    have hn := ih (i + 1) k (by omega) (by omega) (by omega)
    rw [show (((i + 1 : Nat) : Int)) = (i : Int) + 1 by omega] at hn
    rw [hornbooklaw17_DiffErrors.l0, if_pos (by omega), if_pos (by omega), rdE l i hlt, wrap_small (by omega) (by omega)]
    by_cases hb : l[i].f0 = true
    · have := hx l[i] (List.getElem_mem hlt) hb
      rw [if_pos hb, if_neg (by omega), if_neg (by omega), hn]
    · rw [if_neg hb, hn]
theorem DiffErrors : hornbooklaw17_DiffErrors.Pure := by
  intro l _ _ _
  refine ⟨4000, ?_⟩
  unfold hornbooklaw17_DiffErrors.f
  obtain ⟨b, hb, hb2⟩ := few_eq l (k := 4000) (by decide)
  rw [awake17 (by decide), Option.bind_some, hb, Option.bind_some]
  cases b with
  | false => rw [if_neg (by decide)]
  | true =>
    obtain ⟨hl, hs⟩ := hb2 rfl
    obtain ⟨L, hL, hm, -⟩ := make_eq 1 (by decide) (by decide)
    have hle : ∀ i, (l.take i).length ≤ 600 := fun i => by rw [List.length_take]; omega
    have hmt : ∀ i k, 4000 ≤ k + 1 → (hornbooklaw17_ours.f k (l.take i)).bind (fun t => diff_Make.f k 1 t) = some (applyOut (runG (L, -1) 0 (((l.map toE).map enOf).take i))) := by
      intro i k hk
      have := hle i
      rw [ours_eq (l.take i) (by omega) (by omega), Option.bind_some, hm k (by omega) _ (by rw [List.length_map]; omega), (enOf_toE l i).2]
    rw [if_pos rfl, ours_eq l (by omega) (by omega), Option.bind_some, hm 4000 (by decide) _ (by rw [List.length_map]; omega), Option.bind_some]
    cases hr : runG (L, -1) 0 ((l.map toE).map enOf) with
    | ok s =>
      rw [applyOut_ok]
      dsimp only
      rw [if_pos rfl]
      refine errors_loop l hl ?_ l.length 0 4000 rfl (Nat.zero_le _) (by omega)
      intro x hx hi
      have := runG_ints _ _ _ _ hr (enOf (toE x)) (List.mem_map_of_mem (List.mem_map_of_mem hx)) hi
      exact this
    | error pe =>
      obtain ⟨p, e⟩ := pe
      obtain ⟨j, rfl, hj, he, hi, ⟨s, h1⟩, h2⟩ := runG_err _ _ _ _ _ hr
      rw [Nat.zero_add] at h2 ⊢
      have hj2 : j < l.length := by rw [(enOf_toE l 0).1] at hj; exact hj
      have he2 : e ≠ 0 := by rcases he with rfl | rfl <;> decide
      rw [applyOut_err]
      dsimp only
      have hint : l[j].f0 = true → e = 7 := by
        intro hb
        refine hi ?_
        rw [List.getElem_map, List.getElem_map]
        exact hb
      have fin : hornbooklaw17_DiffErrors.j1 4000 l true (j : Int) e false = some true := by
        rw [hornbooklaw17_DiffErrors.j1, if_neg (by decide), if_pos (by omega), if_pos (by omega), wrap_small (by omega) (by omega), Int.toNat_natCast]
        have e1 := hmt j 3999 (by decide)
        have e2 := hmt (j + 1) 3999 (by decide)
        rw [h1, applyOut_ok] at e1
        rw [h2, applyOut_err] at e2
        rw [Option.bind_eq_some_iff] at e1 e2
        obtain ⟨t1, e11, e12⟩ := e1
        obtain ⟨t2, e21, e22⟩ := e2
        rw [e11, Option.bind_some, e12, Option.bind_some, if_pos (by omega), if_pos (by omega), show ((j : Int) + 1).toNat = j + 1 by omega, e21, Option.bind_some, e22, Option.bind_some]
        dsimp only
        rw [if_pos rfl, if_pos rfl, if_pos rfl]
        simp
      rw [if_neg he2, if_neg (by omega), if_neg (by omega), rdE l j hj2]
      by_cases h7 : e = 7
      · subst h7
        rw [if_pos rfl, if_pos (by omega), if_pos (by omega)]
        by_cases hb : l[j].f0 = true
        · rw [if_pos hb]; exact fin
        · rw [if_neg hb]; exact fin
      · have h3 : e = 3 := by omega
        rw [if_neg h7, if_pos h3, if_pos (by omega), if_pos (by omega), if_neg (fun hb => h7 (hint hb))]
        exact fin
end Go.Proofs.YtdcldaknmenklaaGreatDoor.M
end
section
namespace Go.Proofs.YtdcldaknmenklaaGreatDoor.M
open Go Go.ChangeShapes Go.WideShapes Go.RowKit Go.Proofs.YtdcldaknmenklaaGreatDoorW.PrintWords
set_option linter.unusedVariables false
theorem weights_all {H : Type} {P : Program} {e : TypeId} {l : List (DataW H)} {y : DataW H} (hy : y ∈ l) {q : Nat} (hq : q ∈ DataW.weights P e y) : q ∈ DataW.weightsAll P e l := by
  induction l with
  | nil => cases hy
  | cons z r ih =>
    rw [DataW.weightsAll, List.mem_append]
    rcases List.mem_cons.1 hy with rfl | h
    · exact .inl hq
    · exact .inr (ih h)
section
variable {H α : Type} {enc : TypeId × Value → H} {P : Program} {W : World} {base : Nat} {spare : Nat → Bool} {held : Bool} {t e : TypeId}
/-- A slice's one cell, opened: its elements by their kind. -/
theorem open_cells (d : Kd α) (Q : α → Prop) (hu : P.underlying t = some (.slice e)) (hc : P.cellsOf e = d.sz)
    (he : ∀ n cs y, DataW.trod enc P W base spare held n e cs = some y → (∀ q ∈ DataW.weights P e y.1, q ≤ reachBytes) → ∃ x : α, d.K W x cs ∧ Q x)
    {n : Nat} {cs : List Value} {y : DataW H × List MemPlace} (h : DataW.trod enc P W base spare held n t cs = some y) (hw : ∀ q ∈ DataW.weights P t y.1, q ≤ reachBytes) :
    ∃ (a : Option Addr) (len cap : Nat) (l : List α), cs = [.slice a len cap] ∧ l.length = len ∧ l.length ≤ cap ∧ l.length ≤ maxLen ∧ d.C W a l.length l ∧ l.length * P.bytesOf e ≤ reachBytes ∧ ∀ x ∈ l, Q x := by
  rcases Go.Deep.open_slice hu h with ⟨rfl, rfl⟩ | ⟨a, len, cap, m, n', D, Pl, rfl, hb, hl, hm, hmm, rfl, hx⟩
  · exact ⟨none, 0, 0, [], rfl, rfl, Nat.le_refl _, Nat.zero_le _, Kd.C_nil _ _, by simp, fun x h => by cases h⟩
  have hle : len ≤ m := by
    rw [hmm]
    split <;> omega
  have hws : ∀ i, i < len → ∀ q ∈ DataW.weights P e (D i), q ≤ reachBytes := by
    intro i hi q hq
    refine hw q ?_
    show q ∈ DataW.weights P t (DataW.slice _ _)
    rw [DataW.weights, hu]
    exact List.mem_cons_of_mem _ (List.mem_append_left _ (weights_all (List.mem_map.2 ⟨i, List.mem_range.2 hi, rfl⟩) hq))
  have each : ∀ i, i < len → ∃ x : α, (∃ cs', W.cells? base (a.add (i * P.cellsOf e)) (P.cellsOf e) = some cs' ∧ d.K W x cs') ∧ Q x := by
    intro i hi
    obtain ⟨cs', h1, h2⟩ := hx i (Nat.lt_of_lt_of_le hi hle)
    obtain ⟨x, h3, h4⟩ := he _ _ _ h2 (hws i hi)
    exact ⟨x, ⟨cs', h1, h3⟩, h4⟩
  have build : ∀ k, k ≤ len → ∃ l : List α, l.length = k ∧ ∀ i x, l[i]? = some x → (∃ cs', W.cells? base (a.add (i * P.cellsOf e)) (P.cellsOf e) = some cs' ∧ d.K W x cs') ∧ Q x := by
    intro k
    induction k with
    | zero => exact fun _ => ⟨[], rfl, fun i x h => by simp at h⟩
    | succ k ih =>
      intro hk
      obtain ⟨l, hl1, hl2⟩ := ih (by omega)
      obtain ⟨x, hx1⟩ := each k (by omega)
      refine ⟨l ++ [x], by simp [hl1], fun i z hz => ?_⟩
      rcases Nat.lt_or_ge i l.length with h0 | h0
      · rw [List.getElem?_append_left h0] at hz
        exact hl2 i z hz
      · rw [List.getElem?_append_right h0] at hz
        have h1 : i - l.length < 1 := by
          have := (List.getElem?_eq_some_iff.1 hz).1
          simpa using this
        have h2 : i = k := by omega
        subst h2
        have h3 : x = z := by
          rw [show i - l.length = 0 by omega] at hz
          simpa using hz
        subst h3
        exact hx1
  obtain ⟨l, hl1, hl2⟩ := build len (Nat.le_refl _)
  subst hl1
  refine ⟨some a, l.length, cap, l, rfl, rfl, hl, Nat.le_trans hl hm, ⟨rfl, Nat.le_trans (Nat.le_trans hl hm) (by decide), fun _ => ⟨a, rfl, fun j p hj => ?_⟩⟩, ?_, fun x hx' => ?_⟩
  · obtain ⟨⟨cs', h1, h2⟩, _⟩ := hl2 j p hj
    rw [hc] at h1
    obtain ⟨_, h3, h4⟩ := World.cells?_some h1
    refine ⟨cs', h3, h2, fun i u hi => ?_⟩
    have h5 : i < d.sz := by
      have := (List.getElem?_eq_some_iff.1 hi).1
      omega
    rw [← Go.Deep.add_add, h4 i h5, hi]
  · refine Nat.le_trans ?_ (hw ((((List.range l.length).map D).length + ((List.range (m - l.length)).map fun j => D (l.length + j)).length) * P.bytesOf e) ?_)
    · refine Nat.mul_le_mul_right _ ?_
      simp
    · show _ ∈ DataW.weights P t (DataW.slice _ _)
      rw [DataW.weights, hu]
      exact List.mem_cons_self
  · obtain ⟨i, hi⟩ := List.getElem?_of_mem hx'
    exact (hl2 i x hi).2
/-- .. as an argument of a law. -/
theorem open_rows (d : Kd α) (Q : α → Prop) {a : Option Addr} {len cap : Nat} {dt : DataW H} {ps : List MemPlace} {ts : List TypeId} {ds : List (DataW H)} {j : Nat}
    (hsz : (DataW.weightsEach P ts ds).all (· ≤ reachBytes) = true) (ht : ts[j]? = some t) (hd : ds[j]? = some dt) (hu : P.underlying t = some (.slice e)) (hc : P.cellsOf e = d.sz) {B : Nat} (hB : P.bytesOf e = B)
    (he : ∀ n cs y, DataW.trod enc P W base spare held n e cs = some y → (∀ q ∈ DataW.weights P e y.1, q ≤ reachBytes) → ∃ x : α, d.K W x cs ∧ Q x)
    (h : DataW.Trod enc P W base spare held t (.slice a len cap) dt ps) :
    ∃ l : List α, l.length = len ∧ l.length ≤ cap ∧ l.length ≤ maxLen ∧ d.C W a l.length l ∧ l.length * B ≤ 140737488351232 ∧ ∀ x ∈ l, Q x := by
  obtain ⟨fuel, hf⟩ := h
  obtain ⟨a', len', cap', l, hcs, h1, h2, h3, h4, h5, h6⟩ := open_cells d Q hu hc he hf (fun q hq => by
    have := List.all_eq_true.1 hsz _ (DataW.weights_mem_each ht hd q hq)
    simpa using this)
  simp [Value.cells] at hcs
  obtain ⟨rfl, rfl, rfl⟩ := hcs
  rw [hB] at h5
  exact ⟨l, h1, h2, h3, h4, h5, h6⟩
theorem el_string (he : P.underlying e = some .string) : ∀ n cs (y : DataW H × List MemPlace), DataW.trod enc P W base spare held n e cs = some y → (∀ q ∈ DataW.weights P e y.1, q ≤ reachBytes) → ∃ x : ByteArray, Kd.string.K W x cs ∧ x.size ≤ 140737488351232 := by
  intro n cs y h hw
  obtain ⟨s, rfl, rfl, hs⟩ := DataW.trod_string he h
  refine ⟨s, rfl, ?_⟩
  have := hw s.data.toList.length (by simp [DataW.weights])
  rwa [data_length] at this
theorem el_int {k : IntKind} (he : P.underlying e = some (.int k)) : ∀ n cs (y : DataW H × List MemPlace), DataW.trod enc P W base spare held n e cs = some y → (∀ q ∈ DataW.weights P e y.1, q ≤ reachBytes) → ∃ x : Int, (Kd.int k).K W x cs ∧ (Lit.int k x).wf = true := by
  intro n cs y h hw
  obtain ⟨s, rfl, rfl, hs⟩ := DataW.trod_int he h
  exact ⟨s, rfl, hs⟩
theorem el_bool (he : P.underlying e = some .bool) : ∀ n cs (y : DataW H × List MemPlace), DataW.trod enc P W base spare held n e cs = some y → (∀ q ∈ DataW.weights P e y.1, q ≤ reachBytes) → ∃ x : Bool, Kd.bool.K W x cs ∧ True := by
  intro n cs y h hw
  obtain ⟨s, rfl, rfl⟩ := DataW.trod_bool he h
  exact ⟨s, rfl, trivial⟩
/-- A struct: fields are opened one by one; a field's cells and weights. -/
theorem struct_len {fs : Array Field} {n : Nat} {cs : List Value} {y : DataW H × List MemPlace} (ht : P.underlying t = some (.struct fs)) (h : DataW.trod enc P W base spare held n t cs = some y) {c : Nat} (hc : P.cellsOf t = c) : cs.length = c := by
  obtain ⟨xs, n', _, rfl, hl, hlen, hf⟩ := DataW.trod_struct ht h
  rw [hl, hc]
theorem struct_field {fs : Array Field} {n : Nat} {cs : List Value} {y : DataW H × List MemPlace} (ht : P.underlying t = some (.struct fs)) (h : DataW.trod enc P W base spare held n t cs = some y) (hw : ∀ q ∈ DataW.weights P t y.1, q ≤ reachBytes)
    (i : Nat) (f : Field) (hi : fs[i]? = some f) (ft : TypeId) (o s : Nat) (hft : f.type = ft) (ho : f.offset = o) (hs : P.cellsOf ft = s) :
    ∃ n' y', DataW.trod enc P W base spare held n' ft ((cs.drop o).take s) = some y' ∧ ∀ q ∈ DataW.weights P ft y'.1, q ≤ reachBytes := by
  obtain ⟨xs, n', _, rfl, hl, hlen, hf⟩ := DataW.trod_struct ht h
  have h1 := hf i f hi
  have h2 : i < xs.length := by
    rw [hlen]
    exact (Array.getElem?_eq_some_iff.1 hi).1
  rw [List.getElem?_eq_getElem h2, hft, ho, hs] at h1
  refine ⟨n', _, h1, fun q hq => hw q ?_⟩
  show q ∈ DataW.weights P t (DataW.agg _)
  rw [DataW.weights, ht]
  refine DataW.weights_mem_each (j := i) (t := ft) (d := xs[i].1) ?_ ?_ q hq
  · rw [List.getElem?_map, Array.getElem?_toList, hi]
    exact congrArg some hft
  · rw [List.getElem?_map, List.getElem?_eq_getElem h2]
    rfl
end
end Go.Proofs.YtdcldaknmenklaaGreatDoor.M
end
section
/- For every row of entries, what DiffErrors says holds: an error of entries over names of all bytes is told by its place. -/
namespace Go.Proofs.YtdcldaknmenklaaGreatDoor.diffErrors
open Go Go.ChangeShapes Go.WideShapes Go.ChangeAt Go.RowKit
open Go.ChangeMaps (open_string shut_string)
set_option linter.unusedVariables false
open Go.Proofs.YtdcldaknmenklaaGreatDoorW.PrintWords
theorem own : ownKnob Tryz.prog.godebug = none := by kernel_rfl
theorem laidOut : laidOutB Tryz.prog = true := by kernel_rfl
theorem el_S34 {H : Type} {enc : TypeId × Value → H} {W : World} {base : Nat} {spare : Nat → Bool} {held : Bool} : ∀ n cs (y : DataW H × List MemPlace), DataW.trod enc Tryz.prog W base spare held n 34 cs = some y → (∀ q ∈ DataW.weights Tryz.prog 34 y.1, q ≤ reachBytes) → ∃ x : M.S34, M.k34.K W x cs ∧ (True ∧ (Lit.int .i64 x.f1).wf = true ∧ x.f2.size ≤ 140737488351232) := by
  intro n cs y h hw
  have hl := M.struct_len Tryz.underlying34 h (c := 3) (by kernel_rfl)
  obtain ⟨n0, y0, h0, w0⟩ := M.struct_field Tryz.underlying34 h hw 0 _ rfl 4 0 1 rfl rfl (by kernel_rfl)
  obtain ⟨x0, kx0, q0⟩ := (M.el_bool Tryz.underlying4) _ _ _ h0 w0
  obtain ⟨n1, y1, h1, w1⟩ := M.struct_field Tryz.underlying34 h hw 1 _ rfl 3 1 1 rfl rfl (by kernel_rfl)
  obtain ⟨x1, kx1, q1⟩ := (M.el_int Tryz.underlying3) _ _ _ h1 w1
  obtain ⟨n2, y2, h2, w2⟩ := M.struct_field Tryz.underlying34 h hw 2 _ rfl 9 2 1 rfl rfl (by kernel_rfl)
  obtain ⟨x2, kx2, q2⟩ := (M.el_string Tryz.underlying9) _ _ _ h2 w2
  have hcs : cs = (cs.drop 0).take 1 ++ ((cs.drop 1).take 1 ++ ((cs.drop 2).take 1)) := by
    match cs, hl with
    | [c0, c1, c2], _ => rfl
  exact ⟨⟨x0, x1, x2⟩, ⟨_, _, hcs, kx0, _, _, rfl, kx1, kx2⟩, q0, q1, q2⟩
set_option maxRecDepth 100000 in
theorem lifted (os : Os) (started : os.Started) (H : Type) (enc : TypeId × Value → H) :
    ReturnsInHanded {} Tryz.checked os 4 .any (fun w args => (Rows.diffErrorsSpec.pre enc Tryz.prog Tryz.f4 Rows.diffErrorsRow.domain false w args ∧ laidMetH Tryz.prog Rows.diffErrorsRow.laid w) ∧ sizedMet enc Tryz.prog Tryz.f4 (OpenSpec.ofChange Rows.diffErrorsSpec) false w args)
      (Rows.diffErrorsSpec.post enc Tryz.prog Tryz.f4 false true false false) := by
  refine M.returns_both (C := Tryz.checked) (X := fun w _ => laidMetH Tryz.prog Rows.diffErrorsRow.laid w) (fun _ _ _ hh h => h.of_heap hh) own started (by kernel_rfl) Tryz.func4
    (ChangeSpec.witness_shaped (enc := enc) (C := Tryz.checked) (os := os) (X := fun w _ => laidMetH Tryz.prog Rows.diffErrorsRow.laid w) false (World.laidAll Tryz.prog os Rows.diffErrorsRow.laid) #[.slice none 0 0] 8 (World.laidAll_os _ _ _)
      (World.shaped_of_ZipB (by kernel_rfl) (by kernel_rfl)) (by kernel_rfl) (by kernel_rfl) (by kernel_rfl)
      (by rw [MakeChecks.laidMetH_plain _ _ _ (by kernel_rfl)]; exact laidMet_laidAll _ (by kernel_rfl) (by kernel_rfl))) ?_
  intro W base args ds gs before hval0 hW hcnd hsz0 hL hshape
  have hsz : (DataW.weightsEach Tryz.prog (Tryz.f4.params.toList ++ Rows.diffErrorsSpec.plain.varTypes Tryz.prog) (ds ++ gs)).all (· ≤ reachBytes) = true := hsz0
  have hval : ∀ (j : Nat) t v, Tryz.f4.params[j]? = some t → args[j]? = some v → Value.okWide Tryz.prog W .any base t v := hval0
  have hLp := hL
  rw [MakeChecks.laidMetH_plain _ _ _ (by kernel_rfl)] at hLp
  have hG : M.GW W := M.GW.of_mets (hLp.tail.tail.tail.tail) (hLp.tail.tail.tail.tail.tail) (hLp.tail.tail.tail.tail.tail.tail.tail) (hLp.tail.tail) hshape
  have hW' := hW
  obtain ⟨p, q, hA0, hV, rfl, hfz, hnd⟩ := hW
  have hA : DataW.TrodAll enc Tryz.prog W 0 (fun _ => true) true Tryz.f4.params.toList args.toList ds p := hA0
  rw [Tryz.params4] at hA hval hsz
  obtain ⟨v0, vs0, d0, ds0, p0, q0, hargs, rfl, rfl, h0, r0⟩ := trodAll_cons hA
  obtain ⟨rfl, rfl, rfl⟩ := trodAll_nil r0
  obtain rfl : args = #[v0] := by cases args; simp_all
  obtain ⟨rfl, rfl⟩ := trodVars_none hV
  obtain ⟨a0, len0, cap0, rfl⟩ := okWide_slice Tryz.underlying22 (hval 0 22 v0 rfl rfl)
  have k0 := h0
  have lt0 : ∀ x ∈ p0, x.block < W.heap.size := by obtain ⟨m, hm⟩ := k0; exact DataW.trod_lt m _ _ _ hm
  obtain ⟨l0, el0, hc0, w0, hr0, y0, q0⟩ := M.open_rows M.k34 (fun z => (True ∧ (Lit.int .i64 z.f1).wf = true ∧ z.f2.size ≤ 140737488351232)) hsz (j := 0) (t := 22) rfl rfl Tryz.underlying22 (by kernel_rfl) (B := 32) (by kernel_rfl) el_S34 h0
  subst el0
  clear hA0 hval0 hsz0 hsz
  refine (M.hornbooklaw17_DiffErrors.walk M.DiffErrors a0 cap0 l0 W hr0 hc0 w0 y0 q0 hG).mono fun e W' ⟨he, bel⟩ => ?_
  subst he
  exact ⟨_, rfl, _, _, _, [], _, [], hW', trodAll_mk1 (shut_bool Tryz.underlying4 _), (trodAll_cons_mk (Below.trod laidOut (by kernel_rfl) (of_decide_eq_true (by kernel_rfl)) k0 bel lt0) trodAll_mk0), rfl, bel.frame _, fun h => by cases h⟩
theorem over : Rows.diffErrorsRow.holds Tryz.pinned (OpenSpec.ofChange Rows.diffErrorsSpec) :=
  OpenClaim.holds_of_wide 4 Tryz.f4 rfl rfl rfl rfl rfl rfl rfl ⟨rfl, rfl, rfl, rfl, rfl⟩ rfl rfl rfl rfl rfl (by kernel_rfl) Tryz.func4 (by kernel_rfl)
    (of_decide_eq_true (by kernel_rfl)) (by unfold Func.isWrapper; first | (rw [if_pos (by decide +kernel)]; kernel_rfl) | (rw [if_neg (by decide +kernel)]; exact ⟨rfl, rfl⟩))
    (fun os started H enc _ => lifted os started H enc)
theorem proved : Rows.DiffErrorsSaid := over
theorem card : Rows.DiffErrorsCardSaid :=
  Claim7.holds_tied_plain_at .later [] [.data, .data, .data, .data, .sentinel, .sentinel, .listed, .data, .pinned] true (true, "0afd4bafc3317950a78f067166de83fbf789a8e3cacd5b6c49203b0034216e5a") true
    proved (fun _ h => by cases h) (by kernel_rfl) (fun _ h => by cases h) diffErrors_row_tie rfl ⟨rfl, rfl⟩ (by kernel_rfl) rfl
    (fun f fn hf hfn => by
      obtain rfl : f = 4 := Option.some.inj ((show Tryz.prog.funcNamed "hornbook/hornbooklaw17.DiffErrors" = some 4 by kernel_rfl).symm.trans hf) |>.symm
      obtain rfl : fn = Tryz.f4 := (Option.some.inj (Tryz.func4.symm.trans hfn)).symm
      exact ⟨by kernel_rfl, fun j t ht => by
        rw [Tryz.params4] at ht
        have hm : t ∈ [22] := by simpa using Array.mem_of_getElem? ht
        have hall : ([22].all fun u => !Tryz.prog.wantsStandIn u) = true := by kernel_rfl
        exact (show Tryz.prog.wantsStandIn t = false by simpa using List.all_eq_true.1 hall t hm)⟩)
    (by kernel_rfl)
end Go.Proofs.YtdcldaknmenklaaGreatDoor.diffErrors
namespace Go.Proofs.YtdcldaknmenklaaGreatDoor
/-- The statement, under a short name, for the claim. -/
theorem diffErrors_holds : Rows.DiffErrorsCardSaid := diffErrors.card
#print axioms diffErrors_holds
end Go.Proofs.YtdcldaknmenklaaGreatDoor
end
