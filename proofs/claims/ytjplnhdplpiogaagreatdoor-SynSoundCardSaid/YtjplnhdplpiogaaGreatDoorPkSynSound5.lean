/- Of any tokens that are few, and any end, the law SynSound of hornbooklaw05 answers true: what is put together has entries that may be: codes that may be, of one number of bytes, in order, that go to what may be, and no more entries than may be. No condition beside what the row states. -/
/- Packed by this session's program hbpack.py out of this claim's own texts (Q5, Wr, Q24, Q13, Ea, Es, Et, Ef, PureSynSound, Op, LawSynSound): the same declarations, without those that the claim does not use. -/
import Derived.Test.YtjplnhdplpiogaaGreatDoorPkSynSound4
import Derived.HandedShaped
import Derived.ProofKit
import Derived.LaidMore
import Derived.Lay
import Derived.Stop.Joined
import Derived.Shelf.Vars
import Derived.Stop.LaidErr
import Derived.Test.YtjplnhdplpiogaaGreatDoorRows
import Derived.Deep.Strs
import Derived.SizedLaws
import Derived.WalkKit
import Derived.OpenShut
import Derived.ShutString
import Derived.ChangeOld
import Derived.Below
import Derived.SevenTiedAt
import Derived.Test.YtjplnhdplpiogaaGreatDoorCards
import Derived.Test.YtjplnhdplpiogaaGreatDoorTie
section
/- Laid by this session's program hbprint.py out of the translation: the function hornbook/hornbooklaw05.SynSound and its contract. -/
namespace Go.Proofs.YtjplnhdplpiogaaGreatDoor.M
open Go.RowKit Go.Proofs.YtjplnhdplpiogaaGreatDoorW.PrintWords Go.Proofs.YtjplnhdplpiogaaGreatDoorW.PrintLast Go.Proofs.YtjplnhdplpiogaaGreatDoorW.PrintMore
attribute [local go_sem] max2_int min2_int max_two min_two max_three min_three max_four min_four
set_option linter.unusedVariables false
set_option linter.unusedSimpArgs false
mutual
def hornbooklaw05_SynSound.l0 : Nat → Bool → List (S43) → Int → Option (Bool)
 | 0, _, _, _ => none
 | k + 1, x5, x6, x9 => if x9 < (x6.length : Int) then (if 0 ≤ x9 then (if ((rd_T43 x6 x9).f0) < 0 then (hornbooklaw05_SynSound.j1 k x5 x6 x9 true) else (if ((rd_T43 x6 x9).f0) > 8 then (hornbooklaw05_SynSound.j1 k x5 x6 x9 true) else (if (((rd_T43 x6 x9).f4).length : Int) > 100 then (hornbooklaw05_SynSound.j1 k x5 x6 x9 true) else (if ((rd_T43 x6 x9).f0) < 2 then (hornbooklaw05_SynSound.j1 k x5 x6 x9 (decide ((((rd_T43 x6 x9).f4).length : Int) > 0))) else (hornbooklaw05_SynSound.j1 k x5 x6 x9 false))))) else (none)) else (some x5)
def hornbooklaw05_SynSound.j1 : Nat → Bool → List (S43) → Int → Bool → Option (Bool)
 | 0, _, _, _, _ => none
 | k + 1, x5, x6, x9, x76 => if x76 = true then (some false) else (hornbooklaw05_SynSound.l1 k x5 x6 x9 0)
def hornbooklaw05_SynSound.l1 : Nat → Bool → List (S43) → Int → Int → Option (Bool)
 | 0, _, _, _, _ => none
 | k + 1, x5, x6, x9, x10 => if 0 ≤ x9 then (if x9 < (x6.length : Int) then (if x10 < (((rd_T43 x6 x9).f4).length : Int) then (if 0 ≤ x10 then ((hornbooklaw05_sound.f k ((rd_T43 x6 x9).f0) ((rd_T50 ((rd_T43 x6 x9).f4) x10).f0.f0) ((rd_T50 ((rd_T43 x6 x9).f4) x10).f0.f1) ((rd_T50 ((rd_T43 x6 x9).f4) x10).f1.f0) ((rd_T50 ((rd_T43 x6 x9).f4) x10).f1.f1) ((rd_T50 ((rd_T43 x6 x9).f4) x10).f2) ((rd_T50 ((rd_T43 x6 x9).f4) x10).f3) ((rd_T50 ((rd_T43 x6 x9).f4) x10).f4)).bind fun t225 => (if t225 = true then (hornbooklaw05_SynSound.l1 k x5 x6 x9 (wrap64 (x10 + 1))) else (some false))) else (none)) else (hornbooklaw05_SynSound.l0 k x5 x6 (wrap64 (x9 + 1)))) else (none)) else (none)
end
def hornbooklaw05_SynSound.f (k : Nat) (l0 : List (S40)) (a1 : Int) : Option (Bool) := (hornbooklaw05_awake.f k).bind fun t209 => ((hornbookref04_Few.f k l0).bind fun t210 => (if t210 = true then ((syn_Parse.f l0 a1).bind fun bt211 => (if bt211.2.2 = 0 then (hornbooklaw05_SynSound.l0 k t209 bt211.1 0) else (if t209 = true then (some ((bt211.1.length : Int) == 0)) else (some false)))) else (some t209)))
def hornbooklaw05_SynSound.T15 : Bool × List (List Nat × List Nat) := (true, [([], []), ([], []), ([0, 1], [0, 1]), ([2], [2]), ([3], [3]), ([], []), ([], []), ([5, 6], [5, 6]), ([7], [7]), ([8], [8]), ([], []), ([9, 10], [9, 10]), ([11], [11]), ([4, 12], [4, 12]), ([13], [13])])
def hornbooklaw05_SynSound.B15 : List Nat := [0, 0, 3, 7, 15, 0, 0, 96, 224, 480, 0, 2016, 4064, 8191, 16383]
theorem hornbooklaw05_SynSound.tab15 : rtab .any (opsOf Tryz.f5 15) = hornbooklaw05_SynSound.T15 := by kernel_rfl
theorem hornbooklaw05_SynSound.bits15 : waitsOk hornbooklaw05_SynSound.T15.2 hornbooklaw05_SynSound.B15 = true := by kernel_rfl
set_option maxHeartbeats 8000000 in
set_option maxRecDepth 100000 in
theorem hornbooklaw05_SynSound.calls (k : Nat) (A0 : Option Addr) (c0 : Nat) (l0 : List (S40)) (a1 : Int) (r : Bool) (w : World) (hG : GW w) (hr0 : Kd.C k40 w A0 l0.length l0) (hc0 : l0.length ≤ c0) (h : hornbooklaw05_SynSound.f k l0 a1 = some r) (hr_ : r = true) :
  Calls Tryz.prog 5 #[.slice A0 l0.length c0, .int .i64 a1] w fun e w' => e = .returned (.bool r) ∧ Below w.heap.size w w' := by
 have HRT := aM hr_
 clear hr_
 have hu50 := Tryz.underlying50
 have HR0 := aM hr0
 have HC0 := aM hc0
 clear hr0 hc0
 have HG := aM hG
 clear hG
 have HB := aM (Below.refl w.heap.size w)
 have H : ((hornbooklaw05_awake.f k).bind fun t209 => ((hornbookref04_Few.f k l0).bind fun t210 => (if t210 = true then ((syn_Parse.f l0 a1).bind fun bt211 => (if bt211.2.2 = 0 then (hornbooklaw05_SynSound.l0 k t209 bt211.1 0) else (if t209 = true then (some ((bt211.1.length : Int) == 0)) else (some false)))) else (some t209)))) = some r := h
 clear h
 replace H := bS H
 obtain ⟨t209, A3, H⟩ := H
 try dsimp only at H
 replace H := bS H
 obtain ⟨t210, A4, H⟩ := H
 try dsimp only at H
 by_cases c5 : t210 = true
 rotate_left
 ·replace c5 := Bool.eq_false_iff.mpr c5
  subst c5
  rw [if_neg (show ¬ (false = true) by decide)] at H
  obtain rfl := Option.some.inj H
  go_enter Tryz.func5, Tryz.ntmps5
  go_wp2_with (first | ((with_reducible refine gC 8 ?_); refine gL (some 11) Tryz.func8 #[] ?_; (with_reducible refine cB (hornbooklaw05_awake.calls k  t209 _ ?side1 A3.out) ?_); (case side1 => exact gQ HG.out); intro w39 hb; replace HB := sB hb; clear hb) | ((with_reducible refine gC 9 ?_); refine gL (some 13) Tryz.func9 #[.slice A0 l0.length c0] ?_; (with_reducible refine cB (hornbookref04_Few.calls k _ _ l0 false _ ?side1 ?side2 A4.out) ?_); (case side1 => repeat (first | exact (Kd.C_below HR0.out HB.out) | (with_reducible first|refine Kd.C_alloc ?_ _|refine Kd.C_drewN ?_ _|refine Kd.C_drew ?_))); (case side2 => exact HC0.out); intro w40 hb; replace HB := sB hb; clear hb))
  go_ret
  exact ⟨eQ, bQ⟩
 subst c5
 rw [if_pos rfl] at H
 replace H := bS H
 obtain ⟨⟨t211, t212, t213⟩, A6, H⟩ := H
 try dsimp only at H
 refine iEc H ?_ ?_<;>clear H<;>intro H c7b0 c7b1 c7
 rotate_left
 ·by_cases c31 : t209 = true
  rotate_left
  ·replace c31 := Bool.eq_false_iff.mpr c31
   subst c31
   rw [if_neg (show ¬ (false = true) by decide)] at H
   exact absurd ((Option.some.inj H).trans HRT.out) (by decide)
  subst c31
  rw [if_pos rfl] at H
  obtain rfl := Option.some.inj H
  go_enter Tryz.func5, Tryz.ntmps5
  go_wp2_with (first | ((with_reducible refine gC 8 ?_); refine gL (some 11) Tryz.func8 #[] ?_; (with_reducible refine cB (hornbooklaw05_awake.calls k  true _ ?side1 A3.out) ?_); (case side1 => exact gQ HG.out); intro w32 hb; replace HB := sB hb; clear hb) | ((with_reducible refine gC 9 ?_); refine gL (some 13) Tryz.func9 #[.slice A0 l0.length c0] ?_; (with_reducible refine cB (hornbookref04_Few.calls k _ _ l0 true _ ?side1 ?side2 A4.out) ?_); (case side1 => repeat (first | exact (Kd.C_below HR0.out HB.out) | (with_reducible first|refine Kd.C_alloc ?_ _|refine Kd.C_drewN ?_ _|refine Kd.C_drew ?_))); (case side2 => exact HC0.out); intro w33 hb; replace HB := sB hb; clear hb) | ((with_reducible refine gC 10 ?_); refine gL (some 19) Tryz.func10 #[.slice A0 l0.length c0, .int .i64 a1] ?_; (with_reducible refine (syn_Parse.calls _ _ l0 a1 t211 t212 t213 _ ?side1 ?side2 A6.out).mono ?_); (case side1 => repeat (first | exact (Kd.C_below HR0.out HB.out) | (with_reducible first|refine Kd.C_alloc ?_ _|refine Kd.C_drewN ?_ _|refine Kd.C_drew ?_))); (case side2 => exact HC0.out); rintro e w34 ⟨v214, rfl, ho0, hb⟩; refine ⟨_, rfl, ?_⟩; have HO215 := lK ho0; replace HB := sB hb; clear hb ho0; obtain ⟨Ao35, co35, eo35⟩ := Kd.R_slice HO215.out; subst eo35))
  go_ret
  exact ⟨eQ, bQ⟩
 clear c7
 have H' := aM H
 clear H
 go_enter Tryz.func5, Tryz.ntmps5
 go_wp2_with (first | ((with_reducible refine gC 8 ?_); refine gL (some 11) Tryz.func8 #[] ?_; (with_reducible refine cB (hornbooklaw05_awake.calls k  t209 _ ?side1 A3.out) ?_); (case side1 => exact gQ HG.out); intro w8 hb; replace HB := sB hb; clear hb) | ((with_reducible refine gC 9 ?_); refine gL (some 13) Tryz.func9 #[.slice A0 l0.length c0] ?_; (with_reducible refine cB (hornbookref04_Few.calls k _ _ l0 true _ ?side1 ?side2 A4.out) ?_); (case side1 => repeat (first | exact (Kd.C_below HR0.out HB.out) | (with_reducible first|refine Kd.C_alloc ?_ _|refine Kd.C_drewN ?_ _|refine Kd.C_drew ?_))); (case side2 => exact HC0.out); intro w9 hb; replace HB := sB hb; clear hb) | ((with_reducible refine gC 10 ?_); refine gL (some 19) Tryz.func10 #[.slice A0 l0.length c0, .int .i64 a1] ?_; (with_reducible refine (syn_Parse.calls _ _ l0 a1 t211 t212 t213 _ ?side1 ?side2 A6.out).mono ?_); (case side1 => repeat (first | exact (Kd.C_below HR0.out HB.out) | (with_reducible first|refine Kd.C_alloc ?_ _|refine Kd.C_drewN ?_ _|refine Kd.C_drew ?_))); (case side2 => exact HC0.out); rintro e w10 ⟨v214, rfl, ho0, hb⟩; refine ⟨_, rfl, ?_⟩; have HO215 := lK ho0; replace HB := sB hb; clear hb ho0))
 go_loopg [9] k (fun kq v9 w' => ∃ (x9_1 : Int), v9 = .int .i64 x9_1 ∧ Aside0 (hornbooklaw05_SynSound.l0 kq t209 t211 x9_1 = some r) ∧ Aside0 (kq ≤ k) ∧ Aside0 (Kd.R k43 43 w' w.heap.size (fun _ => True) v214 t211) ∧ Aside0 (Below w.heap.size w w'))
 case atStart => exact ⟨(0), vQ, H', ⟨Nat.le_refl _⟩, ⟨mQ HO215⟩, ⟨bQ⟩⟩
 case round =>
  clear H'
  try clear c1
  try clear p2
  try clear c5
  try clear c7
  try clear c7b0
  try clear c7b1
  try clear c8
  try clear c9
  try clear c10
  obtain ⟨x9_1, rfl, HA, HK1, HO_6, HB⟩ := hrel
  cases gk with
  | zero => exact absurd HA.out (by simp [hornbooklaw05_SynSound.l0])
  | succ k1 =>
   have H := HA.out
   clear HA
   simp only [hornbooklaw05_SynSound.l0] at H
   refine iD H ?_ ?_<;>clear H<;>intro H c11b0
   rotate_left
   ·obtain rfl := Option.some.inj H
    obtain ⟨Ao30, co30, eo30⟩ := Kd.R_slice HO_6.out
    subst eo30
    go_wp2
    go_ret
    exact ⟨eQ, bQ⟩
   have HC12 := aM H
   clear H
   obtain ⟨Ao13, co13, eo13⟩ := Kd.R_slice HO_6.out
   subst eo13
   go_upto_region 10 with (fail)
   go_cut [76] (fun v76 wc => ∃ (kq : Nat) (x76_11 : Bool), v76 = .bool x76_11 ∧ Aside0 (hornbooklaw05_SynSound.j1 kq t209 t211 x9_1 x76_11 = some r) ∧ Aside0 (kq ≤ k1) ∧ Aside0 (Kd.R k43 43 wc w.heap.size (fun _ => True) (.slice Ao13 t211.length co13) t211) ∧ Aside0 (Below w.heap.size w wc))
   case first =>
    have H := HC12.out
    clear HC12
    refine iD H ?_ ?_<;>clear H<;>intro H c14b0
    rotate_left
    ·exact absurd H (by simp)
    (first | rw [c14b0] | (simp only [i64_w, i32_w]; rw [c14b0]) | skip)
    refine iD H ?_ ?_<;>clear H<;>intro H c15b0
    ·have H' := aM H
     clear H
     have p216 : 0 ≤ (x9_1 : Int) := of_decide_eq_true hQ
     have q216 : x9_1 < (t211.length : Int) := of_decide_eq_true hQ
     obtain ⟨ad216, A216_7, c216_7, e216, hx216_0, hx216_1, hx216_2, hx216_3, hx216_4, hx216_5, hx216_6, hx216_7, hl216_7, hi216_7⟩ := at_T43 (Kd.R_reads' HO_6.out).2.2 x9_1 p216 q216
     cases e216
     obtain ⟨ce216, hce216, hMe216, hcc216⟩ := Kd.R_get HO_6.out z43 x9_1 p216 (by first | exact q216 | exact of_decide_eq_true hQ | (have e_ := (Kd.R_reads' HO_6.out).1; omega))
     obtain ⟨ve216_7, rfl, ge216_7⟩ := k43_openM hMe216
     have hv216_7 := hcc216 7 _ rfl
     rw [add_field _ _ 7 (by omega)] at hv216_7
     replace hv216_7 := Option.some.inj (hv216_7.symm.trans hx216_7)
     rw [hv216_7] at ge216_7
     have HL216_7 := aM (show Kd.R k50 50 _ _ _ _ ((rd_T43 t211 x9_1).f4) from ge216_7)
     clear hv216_7 ge216_7
     clear hcc216 hce216
     have HR216_7 := aM hi216_7
     have HC216_7 := aM hl216_7
     clear hi216_7 hl216_7
     replace p216 := eq_true p216
     replace q216 := eq_true q216
     go_wp2
     go_meet
     case rel => exact ⟨_, (true), vQ, H', ⟨by have := HK1.out; first | omega | exact Nat.le_refl _⟩, ⟨mQ HO_6⟩, ⟨bQ⟩⟩
    refine iNc H ?_ ?_<;>clear H<;>intro H c16
    ·have c16b0 : decide (8 < ((rd_T43 t211 x9_1).f0)) = true := decide_eq_true c16
     clear c16
     have H' := aM H
     clear H
     have p216 : 0 ≤ (x9_1 : Int) := of_decide_eq_true hQ
     have q216 : x9_1 < (t211.length : Int) := of_decide_eq_true hQ
     obtain ⟨ad216, A216_7, c216_7, e216, hx216_0, hx216_1, hx216_2, hx216_3, hx216_4, hx216_5, hx216_6, hx216_7, hl216_7, hi216_7⟩ := at_T43 (Kd.R_reads' HO_6.out).2.2 x9_1 p216 q216
     cases e216
     obtain ⟨ce216, hce216, hMe216, hcc216⟩ := Kd.R_get HO_6.out z43 x9_1 p216 (by first | exact q216 | exact of_decide_eq_true hQ | (have e_ := (Kd.R_reads' HO_6.out).1; omega))
     obtain ⟨ve216_7, rfl, ge216_7⟩ := k43_openM hMe216
     have hv216_7 := hcc216 7 _ rfl
     rw [add_field _ _ 7 (by omega)] at hv216_7
     replace hv216_7 := Option.some.inj (hv216_7.symm.trans hx216_7)
     rw [hv216_7] at ge216_7
     have HL216_7 := aM (show Kd.R k50 50 _ _ _ _ ((rd_T43 t211 x9_1).f4) from ge216_7)
     clear hv216_7 ge216_7
     clear hcc216 hce216
     have HR216_7 := aM hi216_7
     have HC216_7 := aM hl216_7
     clear hi216_7 hl216_7
     replace p216 := eq_true p216
     replace q216 := eq_true q216
     have p217 : 0 ≤ (x9_1 : Int) := of_decide_eq_true hQ
     have q217 : x9_1 < (t211.length : Int) := of_decide_eq_true hQ
     obtain ⟨ad217, A217_7, c217_7, e217, hx217_0, hx217_1, hx217_2, hx217_3, hx217_4, hx217_5, hx217_6, hx217_7, hl217_7, hi217_7⟩ := at_T43 (Kd.R_reads' HO_6.out).2.2 x9_1 p217 q217
     obtain rfl : ad216 = ad217 := (by injection e217)
     obtain ⟨ce217, hce217, hMe217, hcc217⟩ := Kd.R_get HO_6.out z43 x9_1 p217 (by first | exact q217 | exact of_decide_eq_true hQ | (have e_ := (Kd.R_reads' HO_6.out).1; omega))
     obtain ⟨ve217_7, rfl, ge217_7⟩ := k43_openM hMe217
     have hv217_7 := hcc217 7 _ rfl
     rw [add_field _ _ 7 (by omega)] at hv217_7
     replace hv217_7 := Option.some.inj (hv217_7.symm.trans hx217_7)
     rw [hv217_7] at ge217_7
     have HL217_7 := aM (show Kd.R k50 50 _ _ _ _ ((rd_T43 t211 x9_1).f4) from ge217_7)
     clear hv217_7 ge217_7
     clear hcc217 hce217
     have HR217_7 := aM hi217_7
     have HC217_7 := aM hl217_7
     clear hi217_7 hl217_7
     replace p217 := eq_true p217
     replace q217 := eq_true q217
     have ea_ := Option.some.inj (hx216_7.symm.trans hx217_7)
     injection ea_ with ea_ en_ ec_
     subst ea_
     subst ec_
     clear en_
     go_wp2
     go_meet
     case rel => exact ⟨_, (true), vQ, H', ⟨by have := HK1.out; first | omega | exact Nat.le_refl _⟩, ⟨mQ HO_6⟩, ⟨bQ⟩⟩
    have c16b0 : decide (8 < ((rd_T43 t211 x9_1).f0)) = false := decide_eq_false c16
    clear c16
    refine iNc H ?_ ?_<;>clear H<;>intro H c17
    ·have c17b0 : decide (100 < (((rd_T43 t211 x9_1).f4).length : Int)) = true := decide_eq_true c17
     have c17b1 : decide (100 < ((rd_T43 t211 x9_1).f4).length) = true := decide_eq_true (by omega)
     clear c17
     have H' := aM H
     clear H
     have p216 : 0 ≤ (x9_1 : Int) := of_decide_eq_true hQ
     have q216 : x9_1 < (t211.length : Int) := of_decide_eq_true hQ
     obtain ⟨ad216, A216_7, c216_7, e216, hx216_0, hx216_1, hx216_2, hx216_3, hx216_4, hx216_5, hx216_6, hx216_7, hl216_7, hi216_7⟩ := at_T43 (Kd.R_reads' HO_6.out).2.2 x9_1 p216 q216
     cases e216
     obtain ⟨ce216, hce216, hMe216, hcc216⟩ := Kd.R_get HO_6.out z43 x9_1 p216 (by first | exact q216 | exact of_decide_eq_true hQ | (have e_ := (Kd.R_reads' HO_6.out).1; omega))
     obtain ⟨ve216_7, rfl, ge216_7⟩ := k43_openM hMe216
     have hv216_7 := hcc216 7 _ rfl
     rw [add_field _ _ 7 (by omega)] at hv216_7
     replace hv216_7 := Option.some.inj (hv216_7.symm.trans hx216_7)
     rw [hv216_7] at ge216_7
     have HL216_7 := aM (show Kd.R k50 50 _ _ _ _ ((rd_T43 t211 x9_1).f4) from ge216_7)
     clear hv216_7 ge216_7
     clear hcc216 hce216
     have HR216_7 := aM hi216_7
     have HC216_7 := aM hl216_7
     clear hi216_7 hl216_7
     replace p216 := eq_true p216
     replace q216 := eq_true q216
     have p217 : 0 ≤ (x9_1 : Int) := of_decide_eq_true hQ
     have q217 : x9_1 < (t211.length : Int) := of_decide_eq_true hQ
     obtain ⟨ad217, A217_7, c217_7, e217, hx217_0, hx217_1, hx217_2, hx217_3, hx217_4, hx217_5, hx217_6, hx217_7, hl217_7, hi217_7⟩ := at_T43 (Kd.R_reads' HO_6.out).2.2 x9_1 p217 q217
     obtain rfl : ad216 = ad217 := (by injection e217)
     obtain ⟨ce217, hce217, hMe217, hcc217⟩ := Kd.R_get HO_6.out z43 x9_1 p217 (by first | exact q217 | exact of_decide_eq_true hQ | (have e_ := (Kd.R_reads' HO_6.out).1; omega))
     obtain ⟨ve217_7, rfl, ge217_7⟩ := k43_openM hMe217
     have hv217_7 := hcc217 7 _ rfl
     rw [add_field _ _ 7 (by omega)] at hv217_7
     replace hv217_7 := Option.some.inj (hv217_7.symm.trans hx217_7)
     rw [hv217_7] at ge217_7
     have HL217_7 := aM (show Kd.R k50 50 _ _ _ _ ((rd_T43 t211 x9_1).f4) from ge217_7)
     clear hv217_7 ge217_7
     clear hcc217 hce217
     have HR217_7 := aM hi217_7
     have HC217_7 := aM hl217_7
     clear hi217_7 hl217_7
     replace p217 := eq_true p217
     replace q217 := eq_true q217
     have ea_ := Option.some.inj (hx216_7.symm.trans hx217_7)
     injection ea_ with ea_ en_ ec_
     subst ea_
     subst ec_
     clear en_
     have p218 : 0 ≤ (x9_1 : Int) := of_decide_eq_true hQ
     have q218 : x9_1 < (t211.length : Int) := of_decide_eq_true hQ
     obtain ⟨ad218, A218_7, c218_7, e218, hx218_0, hx218_1, hx218_2, hx218_3, hx218_4, hx218_5, hx218_6, hx218_7, hl218_7, hi218_7⟩ := at_T43 (Kd.R_reads' HO_6.out).2.2 x9_1 p218 q218
     obtain rfl : ad216 = ad218 := (by injection e218)
     obtain ⟨ce218, hce218, hMe218, hcc218⟩ := Kd.R_get HO_6.out z43 x9_1 p218 (by first | exact q218 | exact of_decide_eq_true hQ | (have e_ := (Kd.R_reads' HO_6.out).1; omega))
     obtain ⟨ve218_7, rfl, ge218_7⟩ := k43_openM hMe218
     have hv218_7 := hcc218 7 _ rfl
     rw [add_field _ _ 7 (by omega)] at hv218_7
     replace hv218_7 := Option.some.inj (hv218_7.symm.trans hx218_7)
     rw [hv218_7] at ge218_7
     have HL218_7 := aM (show Kd.R k50 50 _ _ _ _ ((rd_T43 t211 x9_1).f4) from ge218_7)
     clear hv218_7 ge218_7
     clear hcc218 hce218
     have HR218_7 := aM hi218_7
     have HC218_7 := aM hl218_7
     clear hi218_7 hl218_7
     replace p218 := eq_true p218
     replace q218 := eq_true q218
     have ea_ := Option.some.inj (hx216_7.symm.trans hx218_7)
     injection ea_ with ea_ en_ ec_
     subst ea_
     subst ec_
     clear en_
     go_wp2
     go_meet
     case rel => exact ⟨_, (true), vQ, H', ⟨by have := HK1.out; first | omega | exact Nat.le_refl _⟩, ⟨mQ HO_6⟩, ⟨bQ⟩⟩
    have c17b0 : decide (100 < (((rd_T43 t211 x9_1).f4).length : Int)) = false := decide_eq_false c17
    have c17b1 : decide (100 < ((rd_T43 t211 x9_1).f4).length) = false := decide_eq_false (by omega)
    clear c17
    refine iD H ?_ ?_<;>clear H<;>intro H c18b0
    rotate_left
    ·have H' := aM H
     clear H
     have p216 : 0 ≤ (x9_1 : Int) := of_decide_eq_true hQ
     have q216 : x9_1 < (t211.length : Int) := of_decide_eq_true hQ
     obtain ⟨ad216, A216_7, c216_7, e216, hx216_0, hx216_1, hx216_2, hx216_3, hx216_4, hx216_5, hx216_6, hx216_7, hl216_7, hi216_7⟩ := at_T43 (Kd.R_reads' HO_6.out).2.2 x9_1 p216 q216
     cases e216
     obtain ⟨ce216, hce216, hMe216, hcc216⟩ := Kd.R_get HO_6.out z43 x9_1 p216 (by first | exact q216 | exact of_decide_eq_true hQ | (have e_ := (Kd.R_reads' HO_6.out).1; omega))
     obtain ⟨ve216_7, rfl, ge216_7⟩ := k43_openM hMe216
     have hv216_7 := hcc216 7 _ rfl
     rw [add_field _ _ 7 (by omega)] at hv216_7
     replace hv216_7 := Option.some.inj (hv216_7.symm.trans hx216_7)
     rw [hv216_7] at ge216_7
     have HL216_7 := aM (show Kd.R k50 50 _ _ _ _ ((rd_T43 t211 x9_1).f4) from ge216_7)
     clear hv216_7 ge216_7
     clear hcc216 hce216
     have HR216_7 := aM hi216_7
     have HC216_7 := aM hl216_7
     clear hi216_7 hl216_7
     replace p216 := eq_true p216
     replace q216 := eq_true q216
     have p217 : 0 ≤ (x9_1 : Int) := of_decide_eq_true hQ
     have q217 : x9_1 < (t211.length : Int) := of_decide_eq_true hQ
     obtain ⟨ad217, A217_7, c217_7, e217, hx217_0, hx217_1, hx217_2, hx217_3, hx217_4, hx217_5, hx217_6, hx217_7, hl217_7, hi217_7⟩ := at_T43 (Kd.R_reads' HO_6.out).2.2 x9_1 p217 q217
     obtain rfl : ad216 = ad217 := (by injection e217)
     obtain ⟨ce217, hce217, hMe217, hcc217⟩ := Kd.R_get HO_6.out z43 x9_1 p217 (by first | exact q217 | exact of_decide_eq_true hQ | (have e_ := (Kd.R_reads' HO_6.out).1; omega))
     obtain ⟨ve217_7, rfl, ge217_7⟩ := k43_openM hMe217
     have hv217_7 := hcc217 7 _ rfl
     rw [add_field _ _ 7 (by omega)] at hv217_7
     replace hv217_7 := Option.some.inj (hv217_7.symm.trans hx217_7)
     rw [hv217_7] at ge217_7
     have HL217_7 := aM (show Kd.R k50 50 _ _ _ _ ((rd_T43 t211 x9_1).f4) from ge217_7)
     clear hv217_7 ge217_7
     clear hcc217 hce217
     have HR217_7 := aM hi217_7
     have HC217_7 := aM hl217_7
     clear hi217_7 hl217_7
     replace p217 := eq_true p217
     replace q217 := eq_true q217
     have ea_ := Option.some.inj (hx216_7.symm.trans hx217_7)
     injection ea_ with ea_ en_ ec_
     subst ea_
     subst ec_
     clear en_
     have p218 : 0 ≤ (x9_1 : Int) := of_decide_eq_true hQ
     have q218 : x9_1 < (t211.length : Int) := of_decide_eq_true hQ
     obtain ⟨ad218, A218_7, c218_7, e218, hx218_0, hx218_1, hx218_2, hx218_3, hx218_4, hx218_5, hx218_6, hx218_7, hl218_7, hi218_7⟩ := at_T43 (Kd.R_reads' HO_6.out).2.2 x9_1 p218 q218
     obtain rfl : ad216 = ad218 := (by injection e218)
     obtain ⟨ce218, hce218, hMe218, hcc218⟩ := Kd.R_get HO_6.out z43 x9_1 p218 (by first | exact q218 | exact of_decide_eq_true hQ | (have e_ := (Kd.R_reads' HO_6.out).1; omega))
     obtain ⟨ve218_7, rfl, ge218_7⟩ := k43_openM hMe218
     have hv218_7 := hcc218 7 _ rfl
     rw [add_field _ _ 7 (by omega)] at hv218_7
     replace hv218_7 := Option.some.inj (hv218_7.symm.trans hx218_7)
     rw [hv218_7] at ge218_7
     have HL218_7 := aM (show Kd.R k50 50 _ _ _ _ ((rd_T43 t211 x9_1).f4) from ge218_7)
     clear hv218_7 ge218_7
     clear hcc218 hce218
     have HR218_7 := aM hi218_7
     have HC218_7 := aM hl218_7
     clear hi218_7 hl218_7
     replace p218 := eq_true p218
     replace q218 := eq_true q218
     have ea_ := Option.some.inj (hx216_7.symm.trans hx218_7)
     injection ea_ with ea_ en_ ec_
     subst ea_
     subst ec_
     clear en_
     have p219 : 0 ≤ (x9_1 : Int) := of_decide_eq_true hQ
     have q219 : x9_1 < (t211.length : Int) := of_decide_eq_true hQ
     obtain ⟨ad219, A219_7, c219_7, e219, hx219_0, hx219_1, hx219_2, hx219_3, hx219_4, hx219_5, hx219_6, hx219_7, hl219_7, hi219_7⟩ := at_T43 (Kd.R_reads' HO_6.out).2.2 x9_1 p219 q219
     obtain rfl : ad216 = ad219 := (by injection e219)
     obtain ⟨ce219, hce219, hMe219, hcc219⟩ := Kd.R_get HO_6.out z43 x9_1 p219 (by first | exact q219 | exact of_decide_eq_true hQ | (have e_ := (Kd.R_reads' HO_6.out).1; omega))
     obtain ⟨ve219_7, rfl, ge219_7⟩ := k43_openM hMe219
     have hv219_7 := hcc219 7 _ rfl
     rw [add_field _ _ 7 (by omega)] at hv219_7
     replace hv219_7 := Option.some.inj (hv219_7.symm.trans hx219_7)
     rw [hv219_7] at ge219_7
     have HL219_7 := aM (show Kd.R k50 50 _ _ _ _ ((rd_T43 t211 x9_1).f4) from ge219_7)
     clear hv219_7 ge219_7
     clear hcc219 hce219
     have HR219_7 := aM hi219_7
     have HC219_7 := aM hl219_7
     clear hi219_7 hl219_7
     replace p219 := eq_true p219
     replace q219 := eq_true q219
     have ea_ := Option.some.inj (hx216_7.symm.trans hx219_7)
     injection ea_ with ea_ en_ ec_
     subst ea_
     subst ec_
     clear en_
     go_wp2
     go_meet
     case rel => exact ⟨_, (false), vQ, H', ⟨by have := HK1.out; first | omega | exact Nat.le_refl _⟩, ⟨mQ HO_6⟩, ⟨bQ⟩⟩
    have H' := aM H
    clear H
    have p216 : 0 ≤ (x9_1 : Int) := of_decide_eq_true hQ
    have q216 : x9_1 < (t211.length : Int) := of_decide_eq_true hQ
    obtain ⟨ad216, A216_7, c216_7, e216, hx216_0, hx216_1, hx216_2, hx216_3, hx216_4, hx216_5, hx216_6, hx216_7, hl216_7, hi216_7⟩ := at_T43 (Kd.R_reads' HO_6.out).2.2 x9_1 p216 q216
    cases e216
    obtain ⟨ce216, hce216, hMe216, hcc216⟩ := Kd.R_get HO_6.out z43 x9_1 p216 (by first | exact q216 | exact of_decide_eq_true hQ | (have e_ := (Kd.R_reads' HO_6.out).1; omega))
    obtain ⟨ve216_7, rfl, ge216_7⟩ := k43_openM hMe216
    have hv216_7 := hcc216 7 _ rfl
    rw [add_field _ _ 7 (by omega)] at hv216_7
    replace hv216_7 := Option.some.inj (hv216_7.symm.trans hx216_7)
    rw [hv216_7] at ge216_7
    have HL216_7 := aM (show Kd.R k50 50 _ _ _ _ ((rd_T43 t211 x9_1).f4) from ge216_7)
    clear hv216_7 ge216_7
    clear hcc216 hce216
    have HR216_7 := aM hi216_7
    have HC216_7 := aM hl216_7
    clear hi216_7 hl216_7
    replace p216 := eq_true p216
    replace q216 := eq_true q216
    have p217 : 0 ≤ (x9_1 : Int) := of_decide_eq_true hQ
    have q217 : x9_1 < (t211.length : Int) := of_decide_eq_true hQ
    obtain ⟨ad217, A217_7, c217_7, e217, hx217_0, hx217_1, hx217_2, hx217_3, hx217_4, hx217_5, hx217_6, hx217_7, hl217_7, hi217_7⟩ := at_T43 (Kd.R_reads' HO_6.out).2.2 x9_1 p217 q217
    obtain rfl : ad216 = ad217 := (by injection e217)
    obtain ⟨ce217, hce217, hMe217, hcc217⟩ := Kd.R_get HO_6.out z43 x9_1 p217 (by first | exact q217 | exact of_decide_eq_true hQ | (have e_ := (Kd.R_reads' HO_6.out).1; omega))
    obtain ⟨ve217_7, rfl, ge217_7⟩ := k43_openM hMe217
    have hv217_7 := hcc217 7 _ rfl
    rw [add_field _ _ 7 (by omega)] at hv217_7
    replace hv217_7 := Option.some.inj (hv217_7.symm.trans hx217_7)
    rw [hv217_7] at ge217_7
    have HL217_7 := aM (show Kd.R k50 50 _ _ _ _ ((rd_T43 t211 x9_1).f4) from ge217_7)
    clear hv217_7 ge217_7
    clear hcc217 hce217
    have HR217_7 := aM hi217_7
    have HC217_7 := aM hl217_7
    clear hi217_7 hl217_7
    replace p217 := eq_true p217
    replace q217 := eq_true q217
    have ea_ := Option.some.inj (hx216_7.symm.trans hx217_7)
    injection ea_ with ea_ en_ ec_
    subst ea_
    subst ec_
    clear en_
    have p218 : 0 ≤ (x9_1 : Int) := of_decide_eq_true hQ
    have q218 : x9_1 < (t211.length : Int) := of_decide_eq_true hQ
    obtain ⟨ad218, A218_7, c218_7, e218, hx218_0, hx218_1, hx218_2, hx218_3, hx218_4, hx218_5, hx218_6, hx218_7, hl218_7, hi218_7⟩ := at_T43 (Kd.R_reads' HO_6.out).2.2 x9_1 p218 q218
    obtain rfl : ad216 = ad218 := (by injection e218)
    obtain ⟨ce218, hce218, hMe218, hcc218⟩ := Kd.R_get HO_6.out z43 x9_1 p218 (by first | exact q218 | exact of_decide_eq_true hQ | (have e_ := (Kd.R_reads' HO_6.out).1; omega))
    obtain ⟨ve218_7, rfl, ge218_7⟩ := k43_openM hMe218
    have hv218_7 := hcc218 7 _ rfl
    rw [add_field _ _ 7 (by omega)] at hv218_7
    replace hv218_7 := Option.some.inj (hv218_7.symm.trans hx218_7)
    rw [hv218_7] at ge218_7
    have HL218_7 := aM (show Kd.R k50 50 _ _ _ _ ((rd_T43 t211 x9_1).f4) from ge218_7)
    clear hv218_7 ge218_7
    clear hcc218 hce218
    have HR218_7 := aM hi218_7
    have HC218_7 := aM hl218_7
    clear hi218_7 hl218_7
    replace p218 := eq_true p218
    replace q218 := eq_true q218
    have ea_ := Option.some.inj (hx216_7.symm.trans hx218_7)
    injection ea_ with ea_ en_ ec_
    subst ea_
    subst ec_
    clear en_
    have p219 : 0 ≤ (x9_1 : Int) := of_decide_eq_true hQ
    have q219 : x9_1 < (t211.length : Int) := of_decide_eq_true hQ
    obtain ⟨ad219, A219_7, c219_7, e219, hx219_0, hx219_1, hx219_2, hx219_3, hx219_4, hx219_5, hx219_6, hx219_7, hl219_7, hi219_7⟩ := at_T43 (Kd.R_reads' HO_6.out).2.2 x9_1 p219 q219
    obtain rfl : ad216 = ad219 := (by injection e219)
    obtain ⟨ce219, hce219, hMe219, hcc219⟩ := Kd.R_get HO_6.out z43 x9_1 p219 (by first | exact q219 | exact of_decide_eq_true hQ | (have e_ := (Kd.R_reads' HO_6.out).1; omega))
    obtain ⟨ve219_7, rfl, ge219_7⟩ := k43_openM hMe219
    have hv219_7 := hcc219 7 _ rfl
    rw [add_field _ _ 7 (by omega)] at hv219_7
    replace hv219_7 := Option.some.inj (hv219_7.symm.trans hx219_7)
    rw [hv219_7] at ge219_7
    have HL219_7 := aM (show Kd.R k50 50 _ _ _ _ ((rd_T43 t211 x9_1).f4) from ge219_7)
    clear hv219_7 ge219_7
    clear hcc219 hce219
    have HR219_7 := aM hi219_7
    have HC219_7 := aM hl219_7
    clear hi219_7 hl219_7
    replace p219 := eq_true p219
    replace q219 := eq_true q219
    have ea_ := Option.some.inj (hx216_7.symm.trans hx219_7)
    injection ea_ with ea_ en_ ec_
    subst ea_
    subst ec_
    clear en_
    have p220 : 0 ≤ (x9_1 : Int) := of_decide_eq_true hQ
    have q220 : x9_1 < (t211.length : Int) := of_decide_eq_true hQ
    obtain ⟨ad220, A220_7, c220_7, e220, hx220_0, hx220_1, hx220_2, hx220_3, hx220_4, hx220_5, hx220_6, hx220_7, hl220_7, hi220_7⟩ := at_T43 (Kd.R_reads' HO_6.out).2.2 x9_1 p220 q220
    obtain rfl : ad216 = ad220 := (by injection e220)
    obtain ⟨ce220, hce220, hMe220, hcc220⟩ := Kd.R_get HO_6.out z43 x9_1 p220 (by first | exact q220 | exact of_decide_eq_true hQ | (have e_ := (Kd.R_reads' HO_6.out).1; omega))
    obtain ⟨ve220_7, rfl, ge220_7⟩ := k43_openM hMe220
    have hv220_7 := hcc220 7 _ rfl
    rw [add_field _ _ 7 (by omega)] at hv220_7
    replace hv220_7 := Option.some.inj (hv220_7.symm.trans hx220_7)
    rw [hv220_7] at ge220_7
    have HL220_7 := aM (show Kd.R k50 50 _ _ _ _ ((rd_T43 t211 x9_1).f4) from ge220_7)
    clear hv220_7 ge220_7
    clear hcc220 hce220
    have HR220_7 := aM hi220_7
    have HC220_7 := aM hl220_7
    clear hi220_7 hl220_7
    replace p220 := eq_true p220
    replace q220 := eq_true q220
    have ea_ := Option.some.inj (hx216_7.symm.trans hx220_7)
    injection ea_ with ea_ en_ ec_
    subst ea_
    subst ec_
    clear en_
    go_wp2
    go_meet
    case rel => exact ⟨_, (decide ((((rd_T43 t211 x9_1).f4).length : Int) > 0)), vQ, H', ⟨by have := HK1.out; first | omega | exact Nat.le_refl _⟩, ⟨mQ HO_6⟩, ⟨bQ⟩⟩
   case rest =>
    clear HC12
    try clear c1
    try clear c2
    try clear p2
    try clear q2
    try clear hx2
    try clear c5
    try clear c7
    try clear c7b0
    try clear c7b1
    try clear c8
    try clear c9
    try clear c10
    try clear c11
    try clear c11b0
    try clear c14
    try clear c14b0
    try clear c15
    try clear c15b0
    try clear c16
    try clear c16b0
    try clear c17
    try clear c17b0
    try clear c17b1
    try clear c18
    try clear c18b0
    try clear hx216_0
    try clear hx216_1
    try clear hx216_2
    try clear hx216_3
    try clear hx216_4
    try clear hx216_5
    try clear hx216_6
    try clear hx216_7
    try clear hx217_0
    try clear hx217_1
    try clear hx217_2
    try clear hx217_3
    try clear hx217_4
    try clear hx217_5
    try clear hx217_6
    try clear hx217_7
    try clear hx218_0
    try clear hx218_1
    try clear hx218_2
    try clear hx218_3
    try clear hx218_4
    try clear hx218_5
    try clear hx218_6
    try clear hx218_7
    try clear hx219_0
    try clear hx219_1
    try clear hx219_2
    try clear hx219_3
    try clear hx219_4
    try clear hx219_5
    try clear hx219_6
    try clear hx219_7
    try clear hx220_0
    try clear hx220_1
    try clear hx220_2
    try clear hx220_3
    try clear hx220_4
    try clear hx220_5
    try clear hx220_6
    try clear hx220_7
    try clear p2
    try clear p216
    try clear p217
    try clear p218
    try clear p219
    try clear p220
    try clear q216
    try clear q217
    try clear q218
    try clear q219
    try clear q220
    obtain ⟨kq, x76_11, rfl, HA, HJ11, HO_6, HB⟩ := hcut
    cases kq with
    | zero => exact absurd HA.out (by simp [hornbooklaw05_SynSound.j1])
    | succ kj11 =>
     have H := HA.out
     clear HA
     simp only [hornbooklaw05_SynSound.j1] at H
     by_cases c19 : x76_11 = true
     ·subst c19
      rw [if_pos rfl] at H
      exact absurd ((Option.some.inj H).trans HRT.out) (by decide)
     replace c19 := Bool.eq_false_iff.mpr c19
     subst c19
     rw [if_neg (show ¬ (false = true) by decide)] at H
     have H' := aM H
     clear H
     go_wp2
     go_loopg [10] kj11 (fun kq v10 w' => ∃ (x10_3 : Int), v10 = .int .i64 x10_3 ∧ Aside0 (hornbooklaw05_SynSound.l1 kq t209 t211 x9_1 x10_3 = some r) ∧ Aside0 (kq ≤ kj11) ∧ Aside0 (Kd.R k43 43 w' w.heap.size (fun _ => True) (.slice Ao13 t211.length co13) t211) ∧ Aside0 (Below w.heap.size w w'))
     case atStart => exact ⟨(0), vQ, H', ⟨Nat.le_refl _⟩, ⟨mQ HO_6⟩, ⟨bQ⟩⟩
     case round =>
      clear H'
      try clear c1
      try clear c2
      try clear p2
      try clear q2
      try clear hx2
      try clear c5
      try clear c7
      try clear c7b0
      try clear c7b1
      try clear c8
      try clear c9
      try clear c10
      try clear c11
      try clear c11b0
      try clear c14
      try clear c14b0
      try clear c15
      try clear c15b0
      try clear c16
      try clear c16b0
      try clear c17
      try clear c17b0
      try clear c17b1
      try clear c18
      try clear c18b0
      try clear c19
      try clear hx216_0
      try clear hx216_1
      try clear hx216_2
      try clear hx216_3
      try clear hx216_4
      try clear hx216_5
      try clear hx216_6
      try clear hx216_7
      try clear hx217_0
      try clear hx217_1
      try clear hx217_2
      try clear hx217_3
      try clear hx217_4
      try clear hx217_5
      try clear hx217_6
      try clear hx217_7
      try clear hx218_0
      try clear hx218_1
      try clear hx218_2
      try clear hx218_3
      try clear hx218_4
      try clear hx218_5
      try clear hx218_6
      try clear hx218_7
      try clear hx219_0
      try clear hx219_1
      try clear hx219_2
      try clear hx219_3
      try clear hx219_4
      try clear hx219_5
      try clear hx219_6
      try clear hx219_7
      try clear hx220_0
      try clear hx220_1
      try clear hx220_2
      try clear hx220_3
      try clear hx220_4
      try clear hx220_5
      try clear hx220_6
      try clear hx220_7
      try clear p2
      try clear p216
      try clear p217
      try clear p218
      try clear p219
      try clear p220
      try clear q2
      try clear q216
      try clear q217
      try clear q218
      try clear q219
      try clear q220
      obtain ⟨x10_3, rfl, HA, HK3, HO_6, HB⟩ := hrel
      cases gk with
      | zero => exact absurd HA.out (by simp [hornbooklaw05_SynSound.l1])
      | succ k3 =>
       have H := HA.out
       clear HA
       simp only [hornbooklaw05_SynSound.l1] at H
       refine iD H ?_ ?_<;>clear H<;>intro H c20b0
       rotate_left
       ·exact absurd H (by simp)
       refine iD H ?_ ?_<;>clear H<;>intro H c21b0
       rotate_left
       ·exact absurd H (by simp)
       refine iD H ?_ ?_<;>clear H<;>intro H c22b0
       rotate_left
       ·have H' := aM H
        clear H
        have p221 : 0 ≤ (x9_1 : Int) := of_decide_eq_true hQ
        have q221 : x9_1 < (t211.length : Int) := of_decide_eq_true hQ
        obtain ⟨ad221, A221_7, c221_7, e221, hx221_0, hx221_1, hx221_2, hx221_3, hx221_4, hx221_5, hx221_6, hx221_7, hl221_7, hi221_7⟩ := at_T43 (Kd.R_reads' HO_6.out).2.2 x9_1 p221 q221
        cases e221
        obtain ⟨ce221, hce221, hMe221, hcc221⟩ := Kd.R_get HO_6.out z43 x9_1 p221 (by first | exact q221 | exact of_decide_eq_true hQ | (have e_ := (Kd.R_reads' HO_6.out).1; omega))
        obtain ⟨ve221_7, rfl, ge221_7⟩ := k43_openM hMe221
        have hv221_7 := hcc221 7 _ rfl
        rw [add_field _ _ 7 (by omega)] at hv221_7
        replace hv221_7 := Option.some.inj (hv221_7.symm.trans hx221_7)
        rw [hv221_7] at ge221_7
        have HL221_7 := aM (show Kd.R k50 50 _ _ _ _ ((rd_T43 t211 x9_1).f4) from ge221_7)
        clear hv221_7 ge221_7
        clear hcc221 hce221
        have HR221_7 := aM hi221_7
        have HC221_7 := aM hl221_7
        clear hi221_7 hl221_7
        replace p221 := eq_true p221
        replace q221 := eq_true q221
        go_wp2
        go_roundg k3
        case measure => have := HK1.out; have := HJ11.out; have := HK3.out; omega
        case rel => exact ⟨(wrap64 (x9_1 + 1)), vQ, H', ⟨by have := HK1.out; have := HJ11.out; have := HK3.out; omega⟩, ⟨mQ HO_6⟩, ⟨bQ⟩⟩
       refine iD H ?_ ?_<;>clear H<;>intro H c23b0
       rotate_left
       ·exact absurd H (by simp)
       replace H := bS H
       obtain ⟨t225, A24, H⟩ := H
       try dsimp only at H
       by_cases c25 : t225 = true
       rotate_left
       ·replace c25 := Bool.eq_false_iff.mpr c25
        subst c25
        rw [if_neg (show ¬ (false = true) by decide)] at H
        exact absurd ((Option.some.inj H).trans HRT.out) (by decide)
       subst c25
       rw [if_pos rfl] at H
       have H' := aM H
       clear H
       have p221 : 0 ≤ (x9_1 : Int) := of_decide_eq_true hQ
       have q221 : x9_1 < (t211.length : Int) := of_decide_eq_true hQ
       obtain ⟨ad221, A221_7, c221_7, e221, hx221_0, hx221_1, hx221_2, hx221_3, hx221_4, hx221_5, hx221_6, hx221_7, hl221_7, hi221_7⟩ := at_T43 (Kd.R_reads' HO_6.out).2.2 x9_1 p221 q221
       cases e221
       obtain ⟨ce221, hce221, hMe221, hcc221⟩ := Kd.R_get HO_6.out z43 x9_1 p221 (by first | exact q221 | exact of_decide_eq_true hQ | (have e_ := (Kd.R_reads' HO_6.out).1; omega))
       obtain ⟨ve221_7, rfl, ge221_7⟩ := k43_openM hMe221
       have hv221_7 := hcc221 7 _ rfl
       rw [add_field _ _ 7 (by omega)] at hv221_7
       replace hv221_7 := Option.some.inj (hv221_7.symm.trans hx221_7)
       rw [hv221_7] at ge221_7
       have HL221_7 := aM (show Kd.R k50 50 _ _ _ _ ((rd_T43 t211 x9_1).f4) from ge221_7)
       clear hv221_7 ge221_7
       clear hcc221 hce221
       have HR221_7 := aM hi221_7
       have HC221_7 := aM hl221_7
       clear hi221_7 hl221_7
       replace p221 := eq_true p221
       replace q221 := eq_true q221
       try go_wp2
       have n0_ := aM (Kd.R_drew HO_6.out)
       have n1_ := aM (Kd.R_drew HL221_7.out)
       have n2_ := aM (Kd.C_drew HR221_7.out)
       have n3_ := aM (below_drew1 HB.out)
       clear HO_6
       clear HL221_7
       clear HR221_7
       clear HB
       have HO_6 := n0_
       have HL221_7 := n1_
       have HR221_7 := n2_
       have HB := n3_
       clear n0_ n1_ n2_ n3_
       have p222 : 0 ≤ (x9_1 : Int) := of_decide_eq_true hQ
       have q222 : x9_1 < (t211.length : Int) := of_decide_eq_true hQ
       obtain ⟨ad222, A222_7, c222_7, e222, hx222_0, hx222_1, hx222_2, hx222_3, hx222_4, hx222_5, hx222_6, hx222_7, hl222_7, hi222_7⟩ := at_T43 (Kd.R_reads' HO_6.out).2.2 x9_1 p222 q222
       obtain rfl : ad221 = ad222 := (by injection e222)
       obtain ⟨ce222, hce222, hMe222, hcc222⟩ := Kd.R_get HO_6.out z43 x9_1 p222 (by first | exact q222 | exact of_decide_eq_true hQ | (have e_ := (Kd.R_reads' HO_6.out).1; omega))
       obtain ⟨ve222_7, rfl, ge222_7⟩ := k43_openM hMe222
       have hv222_7 := hcc222 7 _ rfl
       rw [add_field _ _ 7 (by omega)] at hv222_7
       replace hv222_7 := Option.some.inj (hv222_7.symm.trans hx222_7)
       rw [hv222_7] at ge222_7
       have HL222_7 := aM (show Kd.R k50 50 _ _ _ _ ((rd_T43 t211 x9_1).f4) from ge222_7)
       clear hv222_7 ge222_7
       clear hcc222 hce222
       have HR222_7 := aM hi222_7
       have HC222_7 := aM hl222_7
       clear hi222_7 hl222_7
       replace p222 := eq_true p222
       replace q222 := eq_true q222
       have p223 : 0 ≤ (x9_1 : Int) := of_decide_eq_true hQ
       have q223 : x9_1 < (t211.length : Int) := of_decide_eq_true hQ
       obtain ⟨ad223, A223_7, c223_7, e223, hx223_0, hx223_1, hx223_2, hx223_3, hx223_4, hx223_5, hx223_6, hx223_7, hl223_7, hi223_7⟩ := at_T43 (Kd.R_reads' HO_6.out).2.2 x9_1 p223 q223
       obtain rfl : ad221 = ad223 := (by injection e223)
       obtain ⟨ce223, hce223, hMe223, hcc223⟩ := Kd.R_get HO_6.out z43 x9_1 p223 (by first | exact q223 | exact of_decide_eq_true hQ | (have e_ := (Kd.R_reads' HO_6.out).1; omega))
       obtain ⟨ve223_7, rfl, ge223_7⟩ := k43_openM hMe223
       have hv223_7 := hcc223 7 _ rfl
       rw [add_field _ _ 7 (by omega)] at hv223_7
       replace hv223_7 := Option.some.inj (hv223_7.symm.trans hx223_7)
       rw [hv223_7] at ge223_7
       have HL223_7 := aM (show Kd.R k50 50 _ _ _ _ ((rd_T43 t211 x9_1).f4) from ge223_7)
       clear hv223_7 ge223_7
       clear hcc223 hce223
       have HR223_7 := aM hi223_7
       have HC223_7 := aM hl223_7
       clear hi223_7 hl223_7
       replace p223 := eq_true p223
       replace q223 := eq_true q223
       have ea_ := Option.some.inj (hx222_7.symm.trans hx223_7)
       injection ea_ with ea_ en_ ec_
       subst ea_
       subst ec_
       clear en_
       have p224 : 0 ≤ (x10_3 : Int) := of_decide_eq_true hQ
       have q224 : x10_3 < (((rd_T43 t211 x9_1).f4).length : Int) := of_decide_eq_true hQ
       obtain ⟨ad224, A224_5, c224_5, A224_6, c224_6, e224, hx224_0, hx224_1, hx224_2, hx224_3, hx224_4, hx224_5, hx224_6, hl224_5, hi224_5, hl224_6, hi224_6⟩ := at_T50 (by repeat (first | (with_reducible exact HR223_7.out) | (with_reducible first|refine Kd.C_alloc ?_ _|refine Kd.C_drewN ?_ _|refine Kd.C_drew ?_) | exact HR223_7.out)) x10_3 p224 q224
       cases e224
       obtain ⟨ce224, hce224, hMe224, hcc224⟩ := Kd.R_get HL223_7.out z50 x10_3 p224 (by first | exact q224 | exact of_decide_eq_true hQ | (have e_ := (Kd.R_reads' HL223_7.out).1; omega))
       obtain ⟨ve224_5, ve224_6, rfl, ge224_5, ge224_6⟩ := k50_openM hMe224
       have hv224_5 := hcc224 5 _ rfl
       rw [add_field _ _ 5 (by omega)] at hv224_5
       replace hv224_5 := Option.some.inj (hv224_5.symm.trans hx224_5)
       rw [hv224_5] at ge224_5
       have HL224_5 := aM (show Kd.R (Kd.int .i64) 3 _ _ _ _ ((rd_T50 ((rd_T43 t211 x9_1).f4) x10_3).f3) from ge224_5)
       clear hv224_5 ge224_5
       have hv224_6 := hcc224 6 _ rfl
       rw [add_field _ _ 6 (by omega)] at hv224_6
       replace hv224_6 := Option.some.inj (hv224_6.symm.trans hx224_6)
       rw [hv224_6] at ge224_6
       have HL224_6 := aM (show Kd.R (Kd.slice 3 (Kd.int .i64)) 47 _ _ _ _ ((rd_T50 ((rd_T43 t211 x9_1).f4) x10_3).f4) from ge224_6)
       clear hv224_6 ge224_6
       clear hcc224 hce224
       have HR224_5 := aM hi224_5
       have HC224_5 := aM hl224_5
       clear hi224_5 hl224_5
       have HR224_6 := aM hi224_6
       have HC224_6 := aM hl224_6
       clear hi224_6 hl224_6
       replace p224 := eq_true p224
       replace q224 := eq_true q224
       refine start_ (n := 15) (S := fun w' => w'.cell? (ad221.add ((x9_1).toNat * 8)) = some (.int .i64 ((rd_T43 t211 x9_1).f0)) ∧ w'.cell? ⟨(ad221.add ((x9_1).toNat * 8)).block, (ad221.add ((x9_1).toNat * 8)).off + 1, none⟩ = some (.int .i64 ((rd_T43 t211 x9_1).f1)) ∧ w'.cell? ⟨(ad221.add ((x9_1).toNat * 8)).block, (ad221.add ((x9_1).toNat * 8)).off + 2, none⟩ = some (.string ((rd_T43 t211 x9_1).f2)) ∧ w'.cell? ⟨(ad221.add ((x9_1).toNat * 8)).block, (ad221.add ((x9_1).toNat * 8)).off + 3, none⟩ = some (.int .i64 ((rd_T43 t211 x9_1).f3.f0)) ∧ w'.cell? ⟨(ad221.add ((x9_1).toNat * 8)).block, (ad221.add ((x9_1).toNat * 8)).off + 4, none⟩ = some (.int .i64 ((rd_T43 t211 x9_1).f3.f1)) ∧ w'.cell? ⟨(ad221.add ((x9_1).toNat * 8)).block, (ad221.add ((x9_1).toNat * 8)).off + 5, none⟩ = some (.int .i64 ((rd_T43 t211 x9_1).f3.f2)) ∧ w'.cell? ⟨(ad221.add ((x9_1).toNat * 8)).block, (ad221.add ((x9_1).toNat * 8)).off + 6, none⟩ = some (.string ((rd_T43 t211 x9_1).f3.f3)) ∧ w'.cell? ⟨(ad221.add ((x9_1).toNat * 8)).block, (ad221.add ((x9_1).toNat * 8)).off + 7, none⟩ = some (.slice (some ad224) ((rd_T43 t211 x9_1).f4).length c222_7) ∧ w'.cell? (ad221.add ((x9_1).toNat * 8)) = some (.int .i64 ((rd_T43 t211 x9_1).f0)) ∧ w'.cell? ⟨(ad221.add ((x9_1).toNat * 8)).block, (ad221.add ((x9_1).toNat * 8)).off + 1, none⟩ = some (.int .i64 ((rd_T43 t211 x9_1).f1)) ∧ w'.cell? ⟨(ad221.add ((x9_1).toNat * 8)).block, (ad221.add ((x9_1).toNat * 8)).off + 2, none⟩ = some (.string ((rd_T43 t211 x9_1).f2)) ∧ w'.cell? ⟨(ad221.add ((x9_1).toNat * 8)).block, (ad221.add ((x9_1).toNat * 8)).off + 3, none⟩ = some (.int .i64 ((rd_T43 t211 x9_1).f3.f0)) ∧ w'.cell? ⟨(ad221.add ((x9_1).toNat * 8)).block, (ad221.add ((x9_1).toNat * 8)).off + 4, none⟩ = some (.int .i64 ((rd_T43 t211 x9_1).f3.f1)) ∧ w'.cell? ⟨(ad221.add ((x9_1).toNat * 8)).block, (ad221.add ((x9_1).toNat * 8)).off + 5, none⟩ = some (.int .i64 ((rd_T43 t211 x9_1).f3.f2)) ∧ w'.cell? ⟨(ad221.add ((x9_1).toNat * 8)).block, (ad221.add ((x9_1).toNat * 8)).off + 6, none⟩ = some (.string ((rd_T43 t211 x9_1).f3.f3)) ∧ w'.cell? ⟨(ad221.add ((x9_1).toNat * 8)).block, (ad221.add ((x9_1).toNat * 8)).off + 7, none⟩ = some (.slice (some ad224) ((rd_T43 t211 x9_1).f4).length c222_7) ∧ w'.cell? (ad224.add ((x10_3).toNat * 7)) = some (.int .i64 ((rd_T50 ((rd_T43 t211 x9_1).f4) x10_3).f0.f0)) ∧ w'.cell? ⟨(ad224.add ((x10_3).toNat * 7)).block, (ad224.add ((x10_3).toNat * 7)).off + 1, none⟩ = some (.int .i64 ((rd_T50 ((rd_T43 t211 x9_1).f4) x10_3).f0.f1)) ∧ w'.cell? ⟨(ad224.add ((x10_3).toNat * 7)).block, (ad224.add ((x10_3).toNat * 7)).off + 2, none⟩ = some (.int .i64 ((rd_T50 ((rd_T43 t211 x9_1).f4) x10_3).f1.f0)) ∧ w'.cell? ⟨(ad224.add ((x10_3).toNat * 7)).block, (ad224.add ((x10_3).toNat * 7)).off + 3, none⟩ = some (.int .i64 ((rd_T50 ((rd_T43 t211 x9_1).f4) x10_3).f1.f1)) ∧ w'.cell? ⟨(ad224.add ((x10_3).toNat * 7)).block, (ad224.add ((x10_3).toNat * 7)).off + 4, none⟩ = some (.int .i64 ((rd_T50 ((rd_T43 t211 x9_1).f4) x10_3).f2)) ∧ w'.cell? ⟨(ad224.add ((x10_3).toNat * 7)).block, (ad224.add ((x10_3).toNat * 7)).off + 5, none⟩ = some (.slice A224_5 ((rd_T50 ((rd_T43 t211 x9_1).f4) x10_3).f3).length c224_5) ∧ w'.cell? ⟨(ad224.add ((x10_3).toNat * 7)).block, (ad224.add ((x10_3).toNat * 7)).off + 6, none⟩ = some (.slice A224_6 ((rd_T50 ((rd_T43 t211 x9_1).f4) x10_3).f4).length c224_6)) (ds := []) #[false, false, false, false, false, false, false, false, false, false, false, false, false, false, false] (by kernel_rfl) rfl rfl ⟨hx222_0, hx222_1, hx222_2, hx222_3, hx222_4, hx222_5, hx222_6, hx222_7, hx223_0, hx223_1, hx223_2, hx223_3, hx223_4, hx223_5, hx223_6, hx223_7, hx224_0, hx224_1, hx224_2, hx224_3, hx224_4, hx224_5, hx224_6⟩ (fun hHeld => ?_); refine with_tabW hornbooklaw05_SynSound.tab15 hornbooklaw05_SynSound.bits15 (fun HT_ HW_ => ?_)
       generalize wr.drew = w26 at HO_6 HL221_7 HR221_7 HB HL222_7 HL223_7 HL224_5 HL224_6 HR222_7 HR223_7 HR224_5 HR224_6 hx222_0 hx222_1 hx222_2 hx222_3 hx222_4 hx222_5 hx222_6 hx222_7 hx223_0 hx223_1 hx223_2 hx223_3 hx223_4 hx223_5 hx223_6 hx223_7 hx224_0 hx224_1 hx224_2 hx224_3 hx224_4 hx224_5 hx224_6 hHeld ⊢
       refine pure_ (i := 0) (N := some 87) (v := ?_) (a' := ?_) #[true, false, false, false, false, false, false, false, false, false, false, false, false, false, false] rfl rfl (any_of HT_.out (by kernel_rfl)) (fun _ _ _ h => h) (Or.inl ⟨by rfl, ?_⟩) ?_ ?_
       rotate_left
       ·intro w'
        go_simp
        with_reducible rfl
       rotate_left
       ·simp only [Act.put, List.setIfInBounds_toArray, List.set_cons_zero, List.set_cons_succ, i64_w, i32_w]
        rfl
       refine pure_ (i := 1) (N := some 88) (v := ?_) (a' := ?_) #[true, true, false, false, false, false, false, false, false, false, false, false, false, false, false] rfl rfl (any_of HT_.out (by kernel_rfl)) (fun _ _ _ h => h) (Or.inl ⟨by rfl, ?_⟩) ?_ ?_
       rotate_left
       ·intro w'
        go_simp
        with_reducible rfl
       rotate_left
       ·simp only [Act.put, List.setIfInBounds_toArray, List.set_cons_zero, List.set_cons_succ, i64_w, i32_w]
        rfl
       refine pure_ (i := 2) (N := some 89) (v := ?_) (a' := ?_) #[true, true, true, false, false, false, false, false, false, false, false, false, false, false, false] rfl rfl (any_of HT_.out (by kernel_rfl)) (fun _ _ _ h => h) (Or.inl ⟨by rfl, ?_⟩) ?_ ?_
       rotate_left
       ·intro w'
        go_simp
        with_reducible rfl
       rotate_left
       ·simp only [Act.put, List.setIfInBounds_toArray, List.set_cons_zero, List.set_cons_succ, i64_w, i32_w]
        rfl
       refine pure_ (i := 3) (N := some 90) (v := ?_) (a' := ?_) #[true, true, true, true, false, false, false, false, false, false, false, false, false, false, false] rfl rfl (any_of HT_.out (by kernel_rfl)) (fun _ _ _ h => h) (Or.inl ⟨by rfl, ?_⟩) ?_ ?_
       rotate_left
       ·intro w'
        go_simp
        with_reducible rfl
       rotate_left
       ·simp only [Act.put, List.setIfInBounds_toArray, List.set_cons_zero, List.set_cons_succ, i64_w, i32_w]
        rfl
       refine pure_ (i := 5) (N := some 92) (v := ?_) (a' := ?_) #[true, true, true, true, false, true, false, false, false, false, false, false, false, false, false] rfl rfl (any_of HT_.out (by kernel_rfl)) (fun _ _ _ h => h) (Or.inl ⟨by rfl, ?_⟩) ?_ ?_
       rotate_left
       ·intro w'
        go_simp
        with_reducible rfl
       rotate_left
       ·simp only [Act.put, List.setIfInBounds_toArray, List.set_cons_zero, List.set_cons_succ, i64_w, i32_w]
        rfl
       refine pure_ (i := 6) (N := some 93) (v := ?_) (a' := ?_) #[true, true, true, true, false, true, true, false, false, false, false, false, false, false, false] rfl rfl (any_of HT_.out (by kernel_rfl)) (fun _ _ _ h => h) (Or.inl ⟨by rfl, ?_⟩) ?_ ?_
       rotate_left
       ·intro w'
        go_simp
        with_reducible rfl
       rotate_left
       ·simp only [Act.put, List.setIfInBounds_toArray, List.set_cons_zero, List.set_cons_succ, i64_w, i32_w]
        rfl
       refine pure_ (i := 7) (N := some 94) (v := ?_) (a' := ?_) #[true, true, true, true, false, true, true, true, false, false, false, false, false, false, false] rfl rfl (any_of HT_.out (by kernel_rfl)) (fun _ _ _ h => h) (Or.inl ⟨by rfl, ?_⟩) ?_ ?_
       rotate_left
       ·intro w'
        go_simp
        with_reducible rfl
       rotate_left
       ·simp only [Act.put, List.setIfInBounds_toArray, List.set_cons_zero, List.set_cons_succ, i64_w, i32_w]
        rfl
       refine pure_ (i := 8) (N := some 95) (v := ?_) (a' := ?_) #[true, true, true, true, false, true, true, true, true, false, false, false, false, false, false] rfl rfl (any_of HT_.out (by kernel_rfl)) (fun _ _ _ h => h) (Or.inl ⟨by rfl, ?_⟩) ?_ ?_
       rotate_left
       ·intro w'
        go_simp
        with_reducible rfl
       rotate_left
       ·simp only [Act.put, List.setIfInBounds_toArray, List.set_cons_zero, List.set_cons_succ, i64_w, i32_w]
        rfl
       refine pure_ (i := 10) (N := some 97) (v := ?_) (a' := ?_) #[true, true, true, true, false, true, true, true, true, false, true, false, false, false, false] rfl rfl (any_of HT_.out (by kernel_rfl)) (fun _ _ _ h => h) (Or.inl ⟨by rfl, ?_⟩) ?_ ?_
       rotate_left
       ·intro w'
        go_simp
        with_reducible rfl
       rotate_left
       ·simp only [Act.put, List.setIfInBounds_toArray, List.set_cons_zero, List.set_cons_succ, i64_w, i32_w]
        rfl
       refine take_ (i := 4) (N := some 91) (v := ?_) (a' := ?_) #[true, true, true, true, true, true, true, true, true, false, true, false, false, false, false] rfl rfl (take_ofW HT_.out HW_.out (by kernel_rfl)) (fun _ _ _ h => h) (Or.inl ⟨by rfl, ?_⟩) hHeld ?_ ?_
       rotate_left
       ·rintro w' ⟨s0, s1, s2, s3, s4, s5, s6, s7, s8, s9, s10, s11, s12, s13, s14, s15, s16, s17, s18, s19, s20, s21, s22⟩
        go_simp
        with_reducible rfl
       rotate_left
       ·simp only [Act.put, List.setIfInBounds_toArray, List.set_cons_zero, List.set_cons_succ, i64_w, i32_w]
        rfl
       refine take_ (i := 9) (N := some 96) (v := ?_) (a' := ?_) #[true, true, true, true, true, true, true, true, true, true, true, false, false, false, false] rfl rfl (take_ofW HT_.out HW_.out (by kernel_rfl)) (fun _ _ _ h => h) (Or.inl ⟨by rfl, ?_⟩) hHeld ?_ ?_
       rotate_left
       ·rintro w' ⟨s0, s1, s2, s3, s4, s5, s6, s7, s8, s9, s10, s11, s12, s13, s14, s15, s16, s17, s18, s19, s20, s21, s22⟩
        go_simp
        with_reducible rfl
       rotate_left
       ·simp only [Act.put, List.setIfInBounds_toArray, List.set_cons_zero, List.set_cons_succ, i64_w, i32_w]
        rfl
       refine pure_ (i := 11) (N := some 98) (v := ?_) (a' := ?_) #[true, true, true, true, true, true, true, true, true, true, true, true, false, false, false] rfl rfl (any_of HT_.out (by kernel_rfl)) (fun _ _ _ h => h) (Or.inl ⟨by rfl, ?_⟩) ?_ ?_
       rotate_left
       ·intro w'
        go_simp
        with_reducible rfl
       rotate_left
       ·simp only [Act.put, List.setIfInBounds_toArray, List.set_cons_zero, List.set_cons_succ, i64_w, i32_w]
        rfl
       refine take_ (i := 12) (N := some 99) (v := ?_) (a' := ?_) #[true, true, true, true, true, true, true, true, true, true, true, true, true, false, false] rfl rfl (take_ofW HT_.out HW_.out (by kernel_rfl)) (fun _ _ _ h => h) (Or.inl ⟨by rfl, ?_⟩) hHeld ?_ ?_
       rotate_left
       ·rintro w' ⟨s0, s1, s2, s3, s4, s5, s6, s7, s8, s9, s10, s11, s12, s13, s14, s15, s16, s17, s18, s19, s20, s21, s22⟩
        go_simp
        with_reducible rfl
       rotate_left
       ·simp only [Act.put, List.setIfInBounds_toArray, List.set_cons_zero, List.set_cons_succ, i64_w, i32_w]
        rfl
       refine one_ (i := 13) (N := some 100) #[true, true, true, true, true, true, true, true, true, true, true, true, true, true, false] rfl rfl (one_of HT_.out (by kernel_rfl)) (by decide) (fun K hK => ?_)
       refine goes_ Tryz.func18 (by kernel_rfl) rfl #[.int .i64 ((rd_T43 t211 x9_1).f0), .agg #[.int .i64 ((rd_T50 ((rd_T43 t211 x9_1).f4) x10_3).f0.f0), .int .i64 ((rd_T50 ((rd_T43 t211 x9_1).f4) x10_3).f0.f1), .int .i64 ((rd_T50 ((rd_T43 t211 x9_1).f4) x10_3).f1.f0), .int .i64 ((rd_T50 ((rd_T43 t211 x9_1).f4) x10_3).f1.f1), .int .i64 ((rd_T50 ((rd_T43 t211 x9_1).f4) x10_3).f2), .slice A224_5 ((rd_T50 ((rd_T43 t211 x9_1).f4) x10_3).f3).length c224_5, .slice A224_6 ((rd_T50 ((rd_T43 t211 x9_1).f4) x10_3).f4).length c224_6]] (by rfl) rfl rfl (by (try simp only [List.map_toArray, List.map_cons, List.map_nil]); first | done | rfl | (simp only [List.length_drop, List.length_take]; rfl)) ?_
       with_reducible refine (hornbooklaw05_sound.calls k3 ((rd_T43 t211 x9_1).f0) ((rd_T50 ((rd_T43 t211 x9_1).f4) x10_3).f0.f0) ((rd_T50 ((rd_T43 t211 x9_1).f4) x10_3).f0.f1) ((rd_T50 ((rd_T43 t211 x9_1).f4) x10_3).f1.f0) ((rd_T50 ((rd_T43 t211 x9_1).f4) x10_3).f1.f1) ((rd_T50 ((rd_T43 t211 x9_1).f4) x10_3).f2) _ _ ((rd_T50 ((rd_T43 t211 x9_1).f4) x10_3).f3) _ _ ((rd_T50 ((rd_T43 t211 x9_1).f4) x10_3).f4) true _ ?side1 ?side2 ?side3 ?side4 A24.out).mono ?_
       (case side1 => repeat (first | exact (by repeat (first | (with_reducible exact HR224_5.out) | (with_reducible first|refine Kd.C_alloc ?_ _|refine Kd.C_drewN ?_ _|refine Kd.C_drew ?_) | exact HR224_5.out)) | (with_reducible first|refine Kd.C_alloc ?_ _|refine Kd.C_drewN ?_ _|refine Kd.C_drew ?_)))
       (case side2 => exact HC224_5.out)
       (case side3 => repeat (first | exact (by repeat (first | (with_reducible exact HR224_6.out) | (with_reducible first|refine Kd.C_alloc ?_ _|refine Kd.C_drewN ?_ _|refine Kd.C_drew ?_) | exact HR224_6.out)) | (with_reducible first|refine Kd.C_alloc ?_ _|refine Kd.C_drewN ?_ _|refine Kd.C_drew ?_)))
       (case side4 => exact HC224_6.out)
       rintro e w27 ⟨rfl, hb⟩
       have HS0_ := (hb.cell (World.block_lt_of_cell? _ _ (hHeld.1))).trans (hHeld.1)
       have HS1_ := (hb.cell (World.block_lt_of_cell? _ _ (hHeld.2.1))).trans (hHeld.2.1)
       have HS2_ := (hb.cell (World.block_lt_of_cell? _ _ (hHeld.2.2.1))).trans (hHeld.2.2.1)
       have HS3_ := (hb.cell (World.block_lt_of_cell? _ _ (hHeld.2.2.2.1))).trans (hHeld.2.2.2.1)
       have HS4_ := (hb.cell (World.block_lt_of_cell? _ _ (hHeld.2.2.2.2.1))).trans (hHeld.2.2.2.2.1)
       have HS5_ := (hb.cell (World.block_lt_of_cell? _ _ (hHeld.2.2.2.2.2.1))).trans (hHeld.2.2.2.2.2.1)
       have HS6_ := (hb.cell (World.block_lt_of_cell? _ _ (hHeld.2.2.2.2.2.2.1))).trans (hHeld.2.2.2.2.2.2.1)
       have HS7_ := (hb.cell (World.block_lt_of_cell? _ _ (hHeld.2.2.2.2.2.2.2.1))).trans (hHeld.2.2.2.2.2.2.2.1)
       have HS8_ := (hb.cell (World.block_lt_of_cell? _ _ (hHeld.2.2.2.2.2.2.2.2.1))).trans (hHeld.2.2.2.2.2.2.2.2.1)
       have HS9_ := (hb.cell (World.block_lt_of_cell? _ _ (hHeld.2.2.2.2.2.2.2.2.2.1))).trans (hHeld.2.2.2.2.2.2.2.2.2.1)
       have HS10_ := (hb.cell (World.block_lt_of_cell? _ _ (hHeld.2.2.2.2.2.2.2.2.2.2.1))).trans (hHeld.2.2.2.2.2.2.2.2.2.2.1)
       have HS11_ := (hb.cell (World.block_lt_of_cell? _ _ (hHeld.2.2.2.2.2.2.2.2.2.2.2.1))).trans (hHeld.2.2.2.2.2.2.2.2.2.2.2.1)
       have HS12_ := (hb.cell (World.block_lt_of_cell? _ _ (hHeld.2.2.2.2.2.2.2.2.2.2.2.2.1))).trans (hHeld.2.2.2.2.2.2.2.2.2.2.2.2.1)
       have HS13_ := (hb.cell (World.block_lt_of_cell? _ _ (hHeld.2.2.2.2.2.2.2.2.2.2.2.2.2.1))).trans (hHeld.2.2.2.2.2.2.2.2.2.2.2.2.2.1)
       have HS14_ := (hb.cell (World.block_lt_of_cell? _ _ (hHeld.2.2.2.2.2.2.2.2.2.2.2.2.2.2.1))).trans (hHeld.2.2.2.2.2.2.2.2.2.2.2.2.2.2.1)
       have HS15_ := (hb.cell (World.block_lt_of_cell? _ _ (hHeld.2.2.2.2.2.2.2.2.2.2.2.2.2.2.2.1))).trans (hHeld.2.2.2.2.2.2.2.2.2.2.2.2.2.2.2.1)
       have HS16_ := (hb.cell (World.block_lt_of_cell? _ _ (hHeld.2.2.2.2.2.2.2.2.2.2.2.2.2.2.2.2.1))).trans (hHeld.2.2.2.2.2.2.2.2.2.2.2.2.2.2.2.2.1)
       have HS17_ := (hb.cell (World.block_lt_of_cell? _ _ (hHeld.2.2.2.2.2.2.2.2.2.2.2.2.2.2.2.2.2.1))).trans (hHeld.2.2.2.2.2.2.2.2.2.2.2.2.2.2.2.2.2.1)
       have HS18_ := (hb.cell (World.block_lt_of_cell? _ _ (hHeld.2.2.2.2.2.2.2.2.2.2.2.2.2.2.2.2.2.2.1))).trans (hHeld.2.2.2.2.2.2.2.2.2.2.2.2.2.2.2.2.2.2.1)
       have HS19_ := (hb.cell (World.block_lt_of_cell? _ _ (hHeld.2.2.2.2.2.2.2.2.2.2.2.2.2.2.2.2.2.2.2.1))).trans (hHeld.2.2.2.2.2.2.2.2.2.2.2.2.2.2.2.2.2.2.2.1)
       have HS20_ := (hb.cell (World.block_lt_of_cell? _ _ (hHeld.2.2.2.2.2.2.2.2.2.2.2.2.2.2.2.2.2.2.2.2.1))).trans (hHeld.2.2.2.2.2.2.2.2.2.2.2.2.2.2.2.2.2.2.2.2.1)
       have HS21_ := (hb.cell (World.block_lt_of_cell? _ _ (hHeld.2.2.2.2.2.2.2.2.2.2.2.2.2.2.2.2.2.2.2.2.2.1))).trans (hHeld.2.2.2.2.2.2.2.2.2.2.2.2.2.2.2.2.2.2.2.2.2.1)
       have HS22_ := (hb.cell (World.block_lt_of_cell? _ _ (hHeld.2.2.2.2.2.2.2.2.2.2.2.2.2.2.2.2.2.2.2.2.2.2))).trans (hHeld.2.2.2.2.2.2.2.2.2.2.2.2.2.2.2.2.2.2.2.2.2.2)
       refine ⟨_, rfl, ?_⟩
       have n0_ := rK HO_6 hb
       have n1_ := rK HL221_7 hb
       have n2_ := rK HL222_7 hb
       have n3_ := rK HL223_7 hb
       have n4_ := rK HL224_5 hb
       have n5_ := rK HL224_6 hb
       have n6_ := aM (Kd.C_below (by repeat (first | (with_reducible exact HR221_7.out) | (with_reducible first|refine Kd.C_alloc ?_ _|refine Kd.C_drewN ?_ _|refine Kd.C_drew ?_) | exact HR221_7.out)) hb)
       have n7_ := aM (Kd.C_below (by repeat (first | (with_reducible exact HR222_7.out) | (with_reducible first|refine Kd.C_alloc ?_ _|refine Kd.C_drewN ?_ _|refine Kd.C_drew ?_) | exact HR222_7.out)) hb)
       have n8_ := aM (Kd.C_below (by repeat (first | (with_reducible exact HR223_7.out) | (with_reducible first|refine Kd.C_alloc ?_ _|refine Kd.C_drewN ?_ _|refine Kd.C_drew ?_) | exact HR223_7.out)) hb)
       have n9_ := aM (Kd.C_below (by repeat (first | (with_reducible exact HR224_5.out) | (with_reducible first|refine Kd.C_alloc ?_ _|refine Kd.C_drewN ?_ _|refine Kd.C_drew ?_) | exact HR224_5.out)) hb)
       have n10_ := aM (Kd.C_below (by repeat (first | (with_reducible exact HR224_6.out) | (with_reducible first|refine Kd.C_alloc ?_ _|refine Kd.C_drewN ?_ _|refine Kd.C_drew ?_) | exact HR224_6.out)) hb)
       have n11_ := sB hb
       clear HO_6
       clear HL221_7
       clear HL222_7
       clear HL223_7
       clear HL224_5
       clear HL224_6
       clear HR221_7
       clear HR222_7
       clear HR223_7
       clear HR224_5
       clear HR224_6
       clear HB
       have HO_6 := n0_
       have HL221_7 := n1_
       have HL222_7 := n2_
       have HL223_7 := n3_
       have HL224_5 := n4_
       have HL224_6 := n5_
       have HR221_7 := n6_
       have HR222_7 := n7_
       have HR223_7 := n8_
       have HR224_5 := n9_
       have HR224_6 := n10_
       have HB := n11_
       clear n0_ n1_ n2_ n3_ n4_ n5_ n6_ n7_ n8_ n9_ n10_ n11_
       (try clear hb)
       (try clear hb2)
       (try clear hk)
       (try clear hi)
       refine hK.out _ _ ⟨HS0_, HS1_, HS2_, HS3_, HS4_, HS5_, HS6_, HS7_, HS8_, HS9_, HS10_, HS11_, HS12_, HS13_, HS14_, HS15_, HS16_, HS17_, HS18_, HS19_, HS20_, HS21_, HS22_⟩ (fun hHeld => ?_)
       clear hK K
       refine norm_ (a' := ?_) ?_ ?_
       rotate_left
       ·show Act.put _ (some 100) _ = _
        simp only [Act.put, List.setIfInBounds_toArray, List.set_cons_zero, List.set_cons_succ, i64_w, i32_w]
        rfl
       refine pure_ (i := 14) (N := some 101) (v := ?_) (a' := ?_) #[true, true, true, true, true, true, true, true, true, true, true, true, true, true, true] rfl rfl (any_of HT_.out (by kernel_rfl)) (fun _ _ _ h => h) (Or.inl ⟨by rfl, ?_⟩) ?_ ?_
       rotate_left
       ·intro w'
        go_simp
        with_reducible rfl
       rotate_left
       ·simp only [Act.put, List.setIfInBounds_toArray, List.set_cons_zero, List.set_cons_succ, i64_w, i32_w]
        rfl
       refine done_ (done_of HT_.out (by kernel_rfl)) ?_
       try go_wp2
       go_roundg k3
       case measure => have := HK1.out; have := HJ11.out; have := HK3.out; omega
       case rel => exact ⟨(wrap64 (x10_3 + 1)), vQ, H', ⟨by have := HK1.out; have := HJ11.out; have := HK3.out; omega⟩, ⟨mQ HO_6⟩, ⟨bQ⟩⟩
/-- THE ONE PURE STATEMENT of hornbooklaw05_SynSound: yours. -/
def hornbooklaw05_SynSound.Pure : Prop := ∀ (l0 : List (S40)) (a1 : Int), l0.length ≤ maxLen → l0.length * 40 ≤ 140737488351232 → (∀ z ∈ l0, ((Lit.int .i64 z.f0).wf = true ∧ (Lit.int .i64 z.f1).wf = true ∧ (Lit.int .i64 z.f2).wf = true ∧ z.f3.size ≤ 140737488351232)) → (Lit.int .i64 a1).wf = true → ∃ k, hornbooklaw05_SynSound.f k l0 a1 = some true
theorem hornbooklaw05_SynSound.walk (P : hornbooklaw05_SynSound.Pure) (a0 : Option Addr) (cap0 : Nat) (l0 : List (S40)) (a1 : Int) (w : World) (hr0 : Kd.C k40 w a0 l0.length l0) (hc0 : l0.length ≤ cap0) (w0 : l0.length ≤ maxLen) (y0 : l0.length * 40 ≤ 140737488351232) (q0 : ∀ z ∈ l0, ((Lit.int .i64 z.f0).wf = true ∧ (Lit.int .i64 z.f1).wf = true ∧ (Lit.int .i64 z.f2).wf = true ∧ z.f3.size ≤ 140737488351232)) (w1 : (Lit.int .i64 a1).wf = true)(hG : GW w) :
  Calls Tryz.prog 5 #[.slice a0 l0.length cap0, .int .i64 a1] w fun e w' => e = .returned (.bool true) ∧ Below w.heap.size w w' := by
 obtain ⟨k, h⟩ := P l0 a1 w0 y0 q0 w1
 refine (hornbooklaw05_SynSound.calls k _ _ l0 a1 true w hG hr0 hc0 h rfl).mono ?_
 rintro e w' ⟨rfl, hd⟩
 exact ⟨rfl, hd⟩
end Go.Proofs.YtjplnhdplpiogaaGreatDoor.M
end
section
namespace Go.Proofs.YtjplnhdplpiogaaGreatDoor.M
open Go Go.RowKit
variable {H : Type} {enc : TypeId × Value → H}
theorem returns_both {a : Assume} {C : Checked} {os : Os} {f : FuncId} {fn : Func} {s : ChangeSpec} {conds : List PathCond} {apart fresh handsOn again : Bool} {X : World → Array Value → Prop}
  (hX : ∀ (w w' : World) (args : Array Value), w.heap = w'.heap → X w args → X w' args)
  (own : ownKnob C.prog.godebug = none) (started : os.Started) (noInit : C.prog.inits.idxOf? f = none) (hfn : C.prog.funcs[f]? = some fn)
  (witness : ∃ (w : World) (tape : Tape) (i : Input), w.os = os ∧ (w.forCall tape i).Shaped C.prog ∧ i.vars = [] ∧ Input.okWide C.prog (w.forCall tape i) .any w.heap.size f i ∧
   ((s.pre enc C.prog fn conds apart (w.forCall tape i).memory i.args ∧ X (w.forCall tape i).memory i.args) ∧ sizedMet enc C.prog fn (OpenSpec.ofChange s) apart (w.forCall tape i).memory i.args) ∧ a.holds C.prog (lone (Frame.enter C.prog f i.args .normal) [] (w.forCall tape i)))
  (contract : ∀ (W : World) (base : Nat) (args : Array Value) (ds gs : List (DataW H)) (before : List MemPlace),
   (∀ (j : Nat) t v, fn.params[j]? = some t → args[j]? = some v → Value.okWide C.prog W .any base t v) →
   DataW.Whole enc C.prog fn.params.toList s.vars apart W args.toList ds gs before →
   conds.all (PathCond.test C.prog ⟨fn.params.toList, ds, s.plain.varTypes C.prog, gs⟩) = true →
   (DataW.weightsEach C.prog (fn.params.toList ++ s.plain.varTypes C.prog) (ds ++ gs)).all (· ≤ reachBytes) = true → X W args → W.ShapedOpen C.prog →
   Calls C.prog f args W fun e W' => ∃ v, e = .returned v ∧ s.post enc C.prog fn apart fresh handsOn again W args v W') :
  ReturnsInHanded a C os f .any (fun w args => (s.pre enc C.prog fn conds apart w args ∧ X w args) ∧ sizedMet enc C.prog fn (OpenSpec.ofChange s) apart w args) (s.post enc C.prog fn apart fresh handsOn again) := by
 refine returnsInHanded_of_calls own started noInit witness ?_
 intro w tape i _ hsh _ hok hpre hholds
 obtain ⟨_, _, _, fn', hfn', _, _, _, _, hval⟩ := hok
 have e : fn' = fn := Option.some.inj (hfn'.symm.trans hfn)
 subst e
 obtain ⟨⟨⟨ds, gs, before, hw, hc⟩, hx⟩, hz⟩ := hpre
 have hw' := DataW.Whole.of_heap (w' := w.forCall tape i) (by rfl) hw
 refine (contract (w.forCall tape i) w.heap.size i.args ds gs before hval hw' hc (hz.weights hw) (hX _ _ _ (by rfl) hx) hsh).mono fun e W' ⟨v, he, hp⟩ => ?_
 subst he
 exact ChangeSpec.post_blind hp
theorem gw_star : "*" ++ "errors.errorString" = "*errors.errorString" := by decide
theorem gw_row (u : TypeId) (h : Tryz.prog.typeName? 3 u = some "*errors.errorString") : u = 208 :=
 typeName_ptr_named (nm := "errors.errorString") (by rw [gw_star]; kernel_rfl) (by kernel_rfl) (by decide) u (by rw [gw_star]; exact h)
/-- Out of a row's 'laid', from the two sentinels on, and the world's shape. -/
theorem GW.of_mets {r1 r2 : List (String × DataW Unit)} {t1 t2 : List UInt8} {W : World}
  (h1 : laidMet Tryz.prog (("strconv.ErrRange", .iface "*errors.errorString" (.ptr (.agg [.lit (.string t1)]))) :: r1) W)
  (h2 : laidMet Tryz.prog (("strconv.ErrSyntax", .iface "*errors.errorString" (.ptr (.agg [.lit (.string t2)]))) :: r2) W)
  {r4 : List (String × DataW Unit)} (h4 : laidMet Tryz.prog (("internal/strconv.uint64pow10", Rows.laid_internal_strconv_uint64pow10) :: r4) W)
  (hsh : W.ShapedOpen Tryz.prog) : GW W := by
 obtain ⟨a0, s0, hv0, -, -, -⟩ := laid_sentinel h1 (g := 0) (ti := 112) (by kernel_rfl) (by kernel_rfl) Tryz.underlying112 gw_row Tryz.underlying208 Tryz.underlying210 rfl rfl Tryz.underlying9 (by kernel_rfl) (by kernel_rfl)
 obtain ⟨a1, s1, hv1, -, -, -⟩ := laid_sentinel h2 (g := 2) (ti := 112) (by kernel_rfl) (by kernel_rfl) Tryz.underlying112 gw_row Tryz.underlying208 Tryz.underlying210 rfl rfl Tryz.underlying9 (by kernel_rfl) (by kernel_rfl)
 have c0 := World.var?_cell (P := Tryz.prog) (g := 0) (by kernel_rfl) hv0 0
 have c1 := World.var?_cell (P := Tryz.prog) (g := 2) (by kernel_rfl) hv1 0
 obtain ⟨m, hm⟩ := cell_of_shapedOpen_int (P := Tryz.prog) (g := 1) (t := 3) (zero := #[.int .i64 0]) hsh (of_decide_eq_true (by kernel_rfl)) (by kernel_rfl) rfl (by kernel_rfl) (by kernel_rfl) Tryz.underlying3
 have e4 : (Rows.laid_internal_strconv_uint64pow10 : DataW Unit) = Lib.tabData .u64 Lib.pow10Tab := by kernel_rfl
 rw [e4] at h4
 have hpow : Lib.TabIs Tryz.prog W "internal/strconv.uint64pow10" .u64 Lib.pow10Tab := Lib.tabIs_of_head (g := 5) (by kernel_rfl) (by kernel_rfl) Tryz.underlying223 Tryz.underlying178 (by kernel_rfl) (by kernel_rfl) h4
 exact {
  range := ⟨a0, by simpa using c0⟩
  syn := ⟨a1, by simpa using c1⟩
  max := ⟨m, hm⟩
  pow := hpow
 }
end Go.Proofs.YtjplnhdplpiogaaGreatDoor.M
end
section
namespace Go.Proofs.YtjplnhdplpiogaaGreatDoor.M
open Go.RowKit Go.Proofs.YtjplnhdplpiogaaGreatDoorW.PrintWords Go.Proofs.YtjplnhdplpiogaaGreatDoorW.PrintLast Go.Proofs.YtjplnhdplpiogaaGreatDoorW.PrintMore
attribute [local go_sem] max2_int min2_int max_two min_two max_three min_three max_four min_four
set_option linter.unusedVariables false
set_option linter.unusedSimpArgs false

end Go.Proofs.YtjplnhdplpiogaaGreatDoor.M
end
section
namespace Go.Proofs.YtjplnhdplpiogaaGreatDoor.M
open Go.RowKit Go.Proofs.YtjplnhdplpiogaaGreatDoorW.PrintWords Go.Proofs.YtjplnhdplpiogaaGreatDoorW.PrintLast Go.Proofs.YtjplnhdplpiogaaGreatDoorW.PrintMore
set_option linter.unusedVariables false
set_option linter.unusedSimpArgs false
set_option maxRecDepth 100000
set_option maxHeartbeats 8000000
theorem awake5_at : hornbooklaw05_awake.f 200 = some true := by decide +kernel
theorem awake5 {k : Nat} (hk : 200 ≤ k) : hornbooklaw05_awake.f k = some true := le_rounds (g := fun k => hornbooklaw05_awake.f k) (fun k => hornbooklaw05_awake.mono k) awake5_at hk
end Go.Proofs.YtjplnhdplpiogaaGreatDoor.M
end
section
namespace Go.Proofs.YtjplnhdplpiogaaGreatDoor.M
open Go.RowKit Go.Proofs.YtjplnhdplpiogaaGreatDoorW.PrintWords Go.Proofs.YtjplnhdplpiogaaGreatDoorW.PrintLast Go.Proofs.YtjplnhdplpiogaaGreatDoorW.PrintMore
set_option linter.unusedVariables false
set_option linter.unusedSimpArgs false
set_option maxRecDepth 100000
set_option maxHeartbeats 8000000
/-- An entry of a section that may be. -/
def soundP (kind : Int) (x : S50) : Prop := saneC x.f0.f0 x.f0.f1 ∧ saneC x.f1.f0 x.f1.f1 ∧ x.f0.f0 = x.f1.f0 ∧ x.f0.f1 ≤ x.f1.f1 ∧ 0 ≤ x.f2 ∧ x.f2 ≤ 65535 ∧ (kind = 3 → x.f2 + (x.f1.f1 - x.f0.f1) ≤ 65535) ∧ (kind < 7 → x.f3 = [] ∧ x.f4 = []) ∧ (7 ≤ kind → (x.f4 ≠ [] ∧ (x.f4.length : Int) = x.f1.f1 - x.f0.f1 + 1 ∧ x.f3 = []) ∨ (x.f4 = [] ∧ 1 ≤ x.f3.length ∧ x.f3.length ≤ 64 ∧ 0 ≤ lastI x.f3 ∧ lastI x.f3 + (x.f1.f1 - x.f0.f1) ≤ 65535))
theorem pairsB_range : ∀ (l : List Int), (∀ b ∈ l, 0 ≤ b ∧ b < 256) → ∀ u ∈ (pairsB l).1, 0 ≤ u ∧ u ≤ 65535
 | [], _, u, hu => by simp [pairsB] at hu
 | [_], _, u, hu => by simp [pairsB] at hu
 | a :: b :: l, h, u, hu => by
  rw [pairsB] at hu
  rcases List.mem_cons.mp hu with rfl | hu
  ·have ha := h a (by simp)
   have hb := h b (by simp)
   rw [show Go.bits .or .i64 (wrap64 (wrap64 a * 256)) (wrap64 b) = accB a b by unfold accB; rw [wrap_small (x := a) (by omega) (by omega)], acc_eq (by omega) (by omega) hb.1 hb.2]
   omega
  ·exact pairsB_range l (fun x hx => h x (by simp [hx])) u hu
theorem last_mem (l : List Int) (h : 1 ≤ l.length) : lastI l ∈ l := by
 unfold lastI
 have hi : l.length - 1 < l.length := by omega
 rw [show (((l.length : Nat) : Int) - 1) = ((l.length - 1 : Nat) : Int) by omega]
 have : rd l ((l.length - 1 : Nat) : Int) = l[l.length - 1] := by simp [rd, List.getD, hi]
 rw [this]
 exact List.getElem_mem _
section
variable {L : List S40} {e i : Int}
theorem take_ok_in {kind : Int} {t : S40} (h : takeF L e i kind = some (.ok t)) : i < L.length := (take_in h).1
theorem code_next {n : Int} {x : S46 × Int} (h : codeF L e i n = some (.ok x)) : i < L.length := by
 unfold codeF at h
 obtain ⟨p, ht, hr⟩ | ⟨t, ht, h⟩ := bX_ok h
 ·cases hr
 ·exact take_ok_in ht
theorem to_in {more v : Int} (h : toF L e i more = some (.ok v)) : i < L.length ∧ 0 ≤ v ∧ v ≤ 65535 - more := by
 unfold toF at h
 obtain ⟨p, ht, hr⟩ | ⟨t, ht, h⟩ := bX_ok h
 ·cases hr
 ·split at h
  ·rename_i hc
   injection h with h; injection h with h; subst h
   exact ⟨take_ok_in ht, hc⟩
  ·injection h with h; cases h
theorem units_ok {u : List Int × Int} (h : unitsF L e i = some (.ok u)) : i < L.length ∧ 1 ≤ u.1.length ∧ u.1.length ≤ 64 ∧ 0 ≤ lastI u.1 ∧ lastI u.1 ≤ 65535 := by
 have hl := units_in h
 unfold unitsF at h
 obtain ⟨p, ht, hr⟩ | ⟨t, ht, h⟩ := bX_ok h
 ·cases hr
 split at h
 ·split at h
  ·injection h with h; cases h
  ·injection h with h; injection h with h; subst h
   have := pairsB_range (bytesOf t.f3) (bytesOf_range t.f3) (lastI (unitsB t.f3).1) (last_mem _ hl.1)
   exact ⟨take_ok_in ht, hl.1, hl.2, this.1, this.2⟩
 ·cases h
theorem pair_in {bad : S46 → S46 → Bool} {x : S50} (h : pairF L e i bad = some (.ok x)) : i + 1 < L.length ∧ saneC x.f0.f0 x.f0.f1 ∧ saneC x.f1.f0 x.f1.f1 ∧ x.f0.f0 = x.f1.f0 ∧ bad x.f0 x.f1 = false ∧ x.f2 = 0 ∧ x.f3 = [] ∧ x.f4 = [] := by
 unfold pairF at h
 obtain ⟨p, h1, hr⟩ | ⟨lo, h1, h⟩ := bX_ok h
 ·cases hr
 obtain ⟨p, h2, hr⟩ | ⟨hi, h2, h⟩ := bX_ok h
 ·cases hr
 split at h
 ·injection h with h; cases h
 ·rename_i hb
  injection h with h; injection h with h; subst h
  have a := code_in h1
  have b := code_in h2
  exact ⟨code_next h2, a.1, b.1, (b.2.1 a.2.2).symm, by simpa using hb, rfl, rfl, rfl⟩
theorem turned_le {a b : S46} (h : turnedB a b = false) : a.f1 ≤ b.f1 := by
 unfold turnedB at h
 have := of_decide_eq_false h
 omega
theorem outside_le {a b : S46} (h1 : saneC a.f0 a.f1) (h2 : saneC b.f0 b.f1) (hn : a.f0 = b.f0) (h : outsideB a b = false) : a.f1 ≤ b.f1 := by
 obtain ⟨n, v⟩ := a
 obtain ⟨n', u⟩ := b
 dsimp only at h1 h2 hn
 subst hn
 obtain ⟨a0, hc⟩ := h1
 obtain ⟨b0, hd⟩ := h2
 unfold outsideB bytesC at h
 dsimp only at h ⊢
 rcases hc with ⟨rfl, hc⟩ | ⟨rfl, hc⟩ | ⟨rfl, hc⟩ | ⟨rfl, hc⟩
 ·simp [anyBelow] at h
  omega
 ·simp [anyBelow] at h
  omega
 ·simp [anyBelow] at h
  omega
 ·simp only [show ∀ x : Int, x / 16777216 = x / 256 / 256 / 256 from fun x => by omega, show ∀ x : Int, x / 65536 = x / 256 / 256 from fun x => by omega] at h
  simp [anyBelow] at h
  omega
theorem listL_in : ∀ (k : Nat) (j : Int) (o : List (List Int)) (f : List (List Int) × Int), listL L e k j o = some (.ok f) → j ≤ f.2 ∧ f.2 < L.length
 | 0, j, o, f, h => by cases h
 | k + 1, j, o, f, h => by
  rw [listL] at h
  split at h
  ·rename_i h7
   injection h with h; injection h with h; rw [← h]
   exact ⟨Int.le_refl _, peek_in (e := e) (by rw [h7]; decide)⟩
  ·split at h
   ·obtain ⟨p, h5, h6⟩ | ⟨u, h5, h6⟩ := bX_ok h
    ·cases h6
    ·have := listL_in k (j + 1) _ f h6
     exact ⟨by omega, this.2⟩
   ·cases h
theorem list_in {n : Int} {r : List (List Int) × Int} (h : listF L e i n = some (.ok r)) : (r.1.length : Int) = n ∧ i < r.2 ∧ r.2 ≤ L.length := by
 unfold listF at h
 obtain ⟨p, h1, h2⟩ | ⟨d, h1, h2⟩ := bX_ok h
 ·cases h2
 obtain ⟨p, h3, h4⟩ | ⟨f, h3, h4⟩ := bX_ok h2
 ·cases h4
 split at h4
 ·rename_i hn
  injection h4 with h4; injection h4 with h4
  subst h4
  have := listL_in _ _ _ _ h3
  dsimp only
  exact ⟨hn, by omega, by omega⟩
 ·injection h4 with h4; cases h4
theorem nx_in {n : Int} {y : Ex S50} {x : S50 × Int} (h : nxX n y = some (.ok x)) : y = some (.ok x.1) ∧ x.2 = n := by
 obtain ⟨p, h1, h2⟩ | ⟨a, h1, h2⟩ := nxX_out h
 ·cases h2
 ·injection h2 with h2; subst h2; exact ⟨h1, rfl⟩
theorem toChar_in {x : S50} (h : toCharF L e i = some (.ok x)) : i + 1 < L.length ∧ saneC x.f0.f0 x.f0.f1 ∧ x.f1 = x.f0 ∧ 0 ≤ x.f2 ∧ x.f2 ≤ 65535 ∧ x.f3 = [] ∧ x.f4 = [] := by
 unfold toCharF at h
 obtain ⟨p, h1, hr⟩ | ⟨y, h1, h⟩ := bX_ok h
 ·cases hr
 obtain ⟨p, h2, hr⟩ | ⟨u, h2, h⟩ := bX_ok h
 ·cases hr
 injection h with h; injection h with h; subst h
 unfold charF at h1
 obtain ⟨p, h3, hr⟩ | ⟨lo, h3, h1⟩ := bX_ok h1
 ·cases hr
 injection h1 with h1; injection h1 with h1; subst h1
 have ht := to_in h2
 exact ⟨ht.1, (code_in h3).1, rfl, ht.2.1, by have := ht.2.2; dsimp only; omega, rfl, rfl⟩
theorem ent_sound {kind : Int} (hkk : kind = 2 ∨ kind = 3 ∨ kind = 4 ∨ kind = 5 ∨ kind = 6 ∨ kind = 7 ∨ kind = 8) {x : S50 × Int} (h : entG kind L e i = some (.ok x)) : soundP kind x.1 ∧ i < x.2 ∧ x.2 ≤ L.length := by
 have char46 : ∀ (kk : Int), kk = 4 ∨ kk = 6 → nxX (i + 2) (toCharF L e i) = some (.ok x) → soundP kk x.1 ∧ i < x.2 ∧ x.2 ≤ L.length := fun kk hk hx => by
  obtain ⟨h1, h2⟩ := nx_in hx
  obtain ⟨a1, a2, a3, a4, a5, a6, a7⟩ := toChar_in h1
  rw [h2]
  refine ⟨⟨a2, by rw [a3]; exact a2, by rw [a3], by rw [a3]; exact Int.le_refl _, a4, a5, fun h => by omega, fun _ => ⟨a6, a7⟩, fun h => by omega⟩, by omega, by omega⟩
 rcases hkk with rfl | rfl | rfl | rfl | rfl | rfl | rfl
 ·obtain ⟨h1, h2⟩ := nx_in (show nxX (i + 2) (spaceF L e i) = some (.ok x) from h)
  obtain ⟨a1, a2, a3, a4, a5, a6, a7, a8⟩ := pair_in h1
  rw [h2]
  exact ⟨⟨a2, a3, a4, outside_le a2 a3 a4 a5, by omega, by omega, fun h => by omega, fun _ => ⟨a7, a8⟩, fun h => by omega⟩, by omega, by omega⟩
 ·obtain ⟨h1, h2⟩ := nx_in (show nxX (i + 3) (cidRangeF L e i) = some (.ok x) from h)
  unfold cidRangeF at h1
  obtain ⟨p, h3, hr⟩ | ⟨y, h3, h1⟩ := bX_ok h1
  ·cases hr
  obtain ⟨p, h4, hr⟩ | ⟨u, h4, h1⟩ := bX_ok h1
  ·cases hr
  injection h1 with h1; injection h1 with h1
  obtain ⟨a1, a2, a3, a4, a5, a6, a7, a8⟩ := pair_in h3
  have ht := to_in h4
  have hle := turned_le a5
  rw [h2, ← h1]
  exact ⟨⟨a2, a3, a4, hle, ht.2.1, by have := ht.2.2; dsimp only; omega, fun _ => by have := ht.2.2; dsimp only; omega, fun _ => ⟨rfl, rfl⟩, fun h => by omega⟩, by omega, by have := ht.1; omega⟩
 ·exact char46 4 (.inl rfl) h
 ·obtain ⟨h1, h2⟩ := nx_in (show nxX (i + 3) (notRangeF L e i) = some (.ok x) from h)
  unfold notRangeF at h1
  obtain ⟨p, h3, hr⟩ | ⟨y, h3, h1⟩ := bX_ok h1
  ·cases hr
  obtain ⟨p, h4, hr⟩ | ⟨u, h4, h1⟩ := bX_ok h1
  ·cases hr
  injection h1 with h1; injection h1 with h1
  obtain ⟨a1, a2, a3, a4, a5, a6, a7, a8⟩ := pair_in h3
  have ht := to_in h4
  have hle := turned_le a5
  rw [h2, ← h1]
  exact ⟨⟨a2, a3, a4, hle, ht.2.1, by have := ht.2.2; dsimp only; omega, fun h => by omega, fun _ => ⟨rfl, rfl⟩, fun h => by omega⟩, by omega, by have := ht.1; omega⟩
 ·exact char46 6 (.inr rfl) h
 ·have h1 : bfRangeF L e i = some (.ok x) := h
  unfold bfRangeF at h1
  obtain ⟨p, h3, hr⟩ | ⟨y, h3, h1⟩ := bX_ok h1
  ·cases hr
  obtain ⟨a1, a2, a3, a4, a5, a6, a7, a8⟩ := pair_in h3
  have hle := turned_le a5
  split at h1
  ·obtain ⟨p, h4, hr⟩ | ⟨u, h4, h1⟩ := bX_ok h1
   ·cases hr
   injection h1 with h1; injection h1 with h1
   have ht := list_in h4
   rw [← h1]
   refine ⟨⟨a2, a3, a4, hle, by dsimp only; omega, by dsimp only; omega, fun h => by omega, fun h => by omega, fun _ => .inl ⟨fun hh => ?_, ht.1, rfl⟩⟩, by dsimp only; omega, ht.2.2⟩
   dsimp only at hh
   rw [hh] at ht
   have := ht.1
   simp at this
   omega
  ·obtain ⟨p, h4, hr⟩ | ⟨u, h4, h1⟩ := bX_ok h1
   ·cases hr
   split at h1
   ·injection h1 with h1; cases h1
   ·rename_i hl
    injection h1 with h1; injection h1 with h1
    have ht := units_ok h4
    rw [← h1]
    exact ⟨⟨a2, a3, a4, hle, by dsimp only; omega, by dsimp only; omega, fun h => by omega, fun h => by omega, fun _ => .inr ⟨rfl, ht.2.1, ht.2.2.1, ht.2.2.2.1, by dsimp only; omega⟩⟩, by dsimp only; omega, by have := ht.1; dsimp only; omega⟩
 ·obtain ⟨h1, h2⟩ := nx_in (show nxX (i + 2) (bfCharF L e i) = some (.ok x) from h)
  unfold bfCharF at h1
  obtain ⟨p, h3, hr⟩ | ⟨y, h3, h1⟩ := bX_ok h1
  ·cases hr
  obtain ⟨p, h4, hr⟩ | ⟨u, h4, h1⟩ := bX_ok h1
  ·cases hr
  injection h1 with h1; injection h1 with h1
  unfold charF at h3
  obtain ⟨p, h5, hr⟩ | ⟨lo, h5, h3⟩ := bX_ok h3
  ·cases hr
  injection h3 with h3; injection h3 with h3; subst h3
  have ht := units_ok h4
  have hc := (code_in h5).1
  rw [h2, ← h1]
  exact ⟨⟨hc, hc, rfl, Int.le_refl _, Int.le_refl _, by show (0 : Int) ≤ 65535; decide, fun h => by omega, fun h => by omega, fun _ => .inr ⟨rfl, ht.2.1, ht.2.2.1, ht.2.2.2.1, by have := ht.2.2.2.2; dsimp only; omega⟩⟩, by omega, by have := ht.1; omega⟩
end
end Go.Proofs.YtjplnhdplpiogaaGreatDoor.M
end
section
namespace Go.Proofs.YtjplnhdplpiogaaGreatDoor.M
open Go.RowKit Go.Proofs.YtjplnhdplpiogaaGreatDoorW.PrintWords Go.Proofs.YtjplnhdplpiogaaGreatDoorW.PrintLast Go.Proofs.YtjplnhdplpiogaaGreatDoorW.PrintMore
set_option linter.unusedVariables false
set_option linter.unusedSimpArgs false
set_option maxRecDepth 100000
set_option maxHeartbeats 8000000
theorem rd40_nat0 (L : List S40) (i : Nat) (h : i < L.length) : rd_T40 L (i : Int) = L[i] := by simp [rd_T40, h]
/-- What is asked of tokens: no text is great, or no word begins a section. -/
def Fit (L : List S40) : Prop := L.length ≤ 300 ∧ ((∀ t ∈ L, t.f3.size ≤ 1000000) ∨ ∀ t ∈ L, (begunF t.f3).2 = false)
theorem rd_mem {L : List S40} {i : Int} (h0 : 0 ≤ i) (h : i < L.length) : rd_T40 L i ∈ L := by
 obtain ⟨n, rfl⟩ := Int.eq_ofNat_of_zero_le h0
 rw [rd40_nat0 L n (by omega)]
 exact List.getElem_mem _
section
variable {L : List S40} {e i : Int}
theorem bX_some {α β : Type} {x : Ex α} {f : α → Ex β} (hx : ∃ r, x = some r) (hf : ∀ a, x = some (.ok a) → ∃ r, f a = some r) : ∃ r, bX x f = some r := by
 obtain ⟨r, rfl⟩ := hx
 cases r with
 | error p => exact ⟨_, rfl⟩
 | ok a => exact hf a rfl
theorem take_some (kind : Int) : ∃ r, takeF L e i kind = some r := by
 unfold takeF
 split
 ·split
  ·exact ⟨_, rfl⟩
  ·exact ⟨_, rfl⟩
 ·exact ⟨_, rfl⟩
theorem take_mem {kind : Int} {t : S40} (h0 : 0 ≤ i) (h : takeF L e i kind = some (.ok t)) : t ∈ L := by
 obtain ⟨h1, h2, rfl⟩ := take_in h
 exact rd_mem h0 h1
variable (hs : ∀ t ∈ L, t.f3.size ≤ 1000000)
include hs
theorem code_some (h0 : 0 ≤ i) (n : Int) : ∃ r, codeF L e i n = some r := by
 refine bX_some (take_some 4) fun t ht => ?_
 rw [if_pos (hs t (take_mem h0 ht))]
 split
 ·exact ⟨_, rfl⟩
 ·exact ⟨_, rfl⟩
omit hs in
theorem to_some (n : Int) : ∃ r, toF L e i n = some r := by
 refine bX_some (take_some 1) fun t ht => ?_
 split
 ·exact ⟨_, rfl⟩
 ·exact ⟨_, rfl⟩
theorem units_some (h0 : 0 ≤ i) : ∃ r, unitsF L e i = some r := by
 refine bX_some (take_some 4) fun t ht => ?_
 rw [if_pos (hs t (take_mem h0 ht))]
 split
 ·exact ⟨_, rfl⟩
 ·exact ⟨_, rfl⟩
theorem pair_some (h0 : 0 ≤ i) (bad : S46 → S46 → Bool) : ∃ r, pairF L e i bad = some r := by
 refine bX_some (code_some hs h0 0) fun lo h1 => bX_some (code_some hs (by omega) _) fun hi h2 => ?_
 split
 ·exact ⟨_, rfl⟩
 ·exact ⟨_, rfl⟩
theorem char_some (h0 : 0 ≤ i) : ∃ r, charF L e i = some r := bX_some (code_some hs h0 0) fun lo h1 => ⟨_, rfl⟩
theorem listL_some (hl : L.length ≤ 300) : ∀ (k : Nat) (j : Int) (o : List (List Int)), 0 ≤ j → j ≤ L.length → (L.length : Int) - j < k → (o.length : Int) ≤ j → ∃ r, listL L e k j o = some r
 | 0, j, o, h0, h1, h2, h3 => by omega
 | k + 1, j, o, h0, h1, h2, h3 => by
  rw [listL]
  split
  ·exact ⟨_, rfl⟩
  ·rw [if_pos (by omega)]
   refine bX_some (units_some hs h0) fun u hu => ?_
   have := (units_ok hu).1
   exact listL_some hl k (j + 1) _ (by omega) (by omega) (by omega) (by simp; omega)
theorem list_some (hl : L.length ≤ 300) (h0 : 0 ≤ i) (n : Int) : ∃ r, listF L e i n = some r := by
 refine bX_some (take_some 6) fun t ht => ?_
 have := take_ok_in ht
 refine bX_some (listL_some hs hl _ _ _ (by omega) (by omega) (by omega) (by simp; omega)) fun r hr => ?_
 split
 ·exact ⟨_, rfl⟩
 ·exact ⟨_, rfl⟩
omit hs in
theorem nx_some {n : Int} {y : Ex S50} (h : ∃ r, y = some r) : ∃ r, nxX n y = some r := bX_some h fun a _ => ⟨_, rfl⟩
theorem ent_some (hl : L.length ≤ 300) (h0 : 0 ≤ i) (kind : Int) : ∃ r, entG kind L e i = some r := by
 unfold entG
 split
 ·exact nx_some (pair_some hs h0 _)
 split
 ·exact nx_some (bX_some (pair_some hs h0 _) fun x _ => bX_some (to_some _) fun u _ => ⟨_, rfl⟩)
 split
 ·exact nx_some (bX_some (pair_some hs h0 _) fun x _ => bX_some (to_some _) fun u _ => ⟨_, rfl⟩)
 split
 ·refine bX_some (pair_some hs h0 _) fun x _ => ?_
  split
  ·exact bX_some (list_some hs hl (by omega) _) fun u _ => ⟨_, rfl⟩
  ·refine bX_some (units_some hs (by omega)) fun u _ => ?_
   split
   ·exact ⟨_, rfl⟩
   ·exact ⟨_, rfl⟩
 split
 ·exact nx_some (bX_some (char_some hs h0) fun x _ => bX_some (units_some hs (by omega)) fun u _ => ⟨_, rfl⟩)
 ·exact nx_some (bX_some (char_some hs h0) fun x _ => bX_some (to_some _) fun u _ => ⟨_, rfl⟩)
theorem secL_some (hl : L.length ≤ 300) (kind : Int) (hkk : kind = 2 ∨ kind = 3 ∨ kind = 4 ∨ kind = 5 ∨ kind = 6 ∨ kind = 7 ∨ kind = 8) : ∀ (k : Nat) (j : Int) (es : List S50), 0 ≤ j → j ≤ L.length → (L.length : Int) - j < k → (es.length : Int) ≤ j → ∃ r, secL kind L e k j es = some r
 | 0, j, o, h0, h1, h2, h3 => by omega
 | k + 1, j, o, h0, h1, h2, h3 => by
  rw [secL]
  split
  ·exact ⟨_, rfl⟩
  ·rw [if_pos (by omega)]
   refine bX_some (ent_some hs hl h0 kind) fun x hx => ?_
   have := ent_sound hkk hx
   exact secL_some hl kind hkk k x.2 _ (by omega) (by omega) (by omega) (by simp; omega)
theorem section_some (hl : L.length ≤ 300) (kind : Int) (hkk : kind = 2 ∨ kind = 3 ∨ kind = 4 ∨ kind = 5 ∨ kind = 6 ∨ kind = 7 ∨ kind = 8) (h0 : 0 ≤ i) (h1 : i ≤ L.length) (n : Int) : ∃ r, sectionF kind L e i n = some r := by
 refine bX_some (secL_some hs hl kind hkk _ _ _ h0 h1 (by omega) (by simp; omega)) fun r hr => ?_
 split
 ·exact ⟨_, rfl⟩
 ·exact ⟨_, rfl⟩
end
section
variable {L : List S40} {e : Int}
theorem secL_in {kind : Int} (hkk : kind = 2 ∨ kind = 3 ∨ kind = 4 ∨ kind = 5 ∨ kind = 6 ∨ kind = 7 ∨ kind = 8) : ∀ (k : Nat) (j : Int) (es : List S50) (r : List S50 × Int), (∀ x ∈ es, soundP kind x) → secL kind L e k j es = some (.ok r) → (∀ x ∈ r.1, soundP kind x) ∧ j ≤ r.2 ∧ r.2 < L.length
 | 0, j, es, r, h, hr => by cases hr
 | k + 1, j, es, r, h, hr => by
  rw [secL] at hr
  split at hr
  ·rename_i h3
   injection hr with hr; injection hr with hr; rw [← hr]
   exact ⟨h, Int.le_refl _, peek_in (e := e) (by rw [h3.1]; decide)⟩
  ·split at hr
   ·obtain ⟨p, h5, h6⟩ | ⟨u, h5, h6⟩ := bX_ok hr
    ·cases h6
    ·have h7 := ent_sound hkk h5
     have := secL_in hkk k u.2 (es ++ [u.1]) r (fun x hx => by
      rcases List.mem_append.mp hx with h8 | h8
      ·exact h x h8
      ·rw [List.mem_singleton] at h8; subst h8; exact h7.1) h6
     exact ⟨this.1, by omega, this.2.2⟩
   ·cases hr
/-- An item that may be. -/
def itemP (x : S43) : Prop := 0 ≤ x.f0 ∧ x.f0 ≤ 8 ∧ x.f4.length ≤ 100 ∧ (x.f0 < 2 → x.f4 = []) ∧ ∀ y ∈ x.f4, soundP x.f0 y
theorem word_in {i : Int} (h0 : 0 ≤ i) (hi : i < L.length) {its : List S43} (hp : ∀ x ∈ its, itemP x) {q : Int × List S43} (h : wordE L e i its = some (.ok q)) : i < q.1 ∧ q.1 ≤ L.length ∧ q.2.length ≤ its.length + 1 ∧ ∀ x ∈ q.2, itemP x := by
 have one : ∀ (y : S43), itemP y → ∀ x ∈ its ++ [y], itemP x := fun y hy x hx => by
  rcases List.mem_append.mp hx with h8 | h8
  ·exact hp x h8
  ·rw [List.mem_singleton] at h8; subst h8; exact hy
 unfold wordE at h
 split at h
 ·injection h with h; injection h with h; rw [← h]
  exact ⟨by dsimp only; omega, by dsimp only; omega, by simp, one _ ⟨by dsimp only; omega, by dsimp only; omega, by simp, fun _ => rfl, fun y hy => by cases hy⟩⟩
 split at h
 ·injection h with h; injection h with h; rw [← h]
  exact ⟨by dsimp only; omega, by dsimp only; omega, by simp, one _ ⟨by dsimp only; omega, by dsimp only; omega, by simp, fun _ => rfl, fun y hy => by cases hy⟩⟩
 split at h
 ·injection h with h; cases h
 split at h
 ·rename_i hb
  have hkk := begun_kind hb
  split at h
  ·injection h with h; cases h
  ·rename_i hn
   obtain ⟨rs, hs, hr⟩ := Option.map_eq_some_iff.mp h
   match rs, hr with
   | .ok q', hr =>
    injection hr with hr
    unfold sectionF at hs
    obtain ⟨p, h1, h2⟩ | ⟨f, h1, h2⟩ := bX_ok hs
    ·cases h2
    split at h2
    ·rename_i hc
     injection h2 with h2; injection h2 with h2
     have hin := secL_in hkk _ _ _ _ (fun x hx => by cases hx) h1
     rw [← hr, ← h2]
     refine ⟨by dsimp only; omega, by dsimp only; omega, by simp, one _ ⟨by dsimp only; omega, by dsimp only; omega, by dsimp only; omega, fun hh => by dsimp only at hh; omega, hin.1⟩⟩
    ·injection h2 with h2; cases h2
 ·injection h with h; injection h with h; rw [← h]
  exact ⟨by dsimp only; omega, by dsimp only; omega, by simp, hp⟩
def errOk {α : Type} (x : Ex α) : Prop := ∀ p, x = some (.error p) → p.2 ≠ 0
theorem err_lit {α : Type} (a k : Int) (h : k ≠ 0) : errOk (some (.error (a, k)) : Ex α) := fun p hp => by injection hp with hp; injection hp with hp; rw [← hp]; exact h
theorem ok_lit {α : Type} (a : α) : errOk (some (.ok a) : Ex α) := fun p hp => by injection hp with hp; cases hp
theorem none_lit {α : Type} : errOk (none : Ex α) := fun p hp => by cases hp
theorem bX_err {α β : Type} {x : Ex α} {f : α → Ex β} (hx : errOk x) (hf : ∀ a, errOk (f a)) : errOk (bX x f) := fun p hp => by
 match x, hx, hp with
 | some (.error q), hx, hp => injection hp with hp; injection hp with hp; rw [← hp]; exact hx q rfl
 | some (.ok a), hx, hp => exact hf a p hp
theorem take_err (i kind : Int) : errOk (takeF L e i kind) := by
 unfold takeF
 split
 ·split
  ·exact ok_lit _
  ·exact err_lit _ _ (by decide)
 ·exact err_lit _ _ (by decide)
theorem code_err (i n : Int) : errOk (codeF L e i n) := bX_err (take_err i 4) fun t => by
 split
 ·split
  ·exact ok_lit _
  ·exact err_lit _ _ (by decide)
 ·exact none_lit
theorem to_err (i n : Int) : errOk (toF L e i n) := bX_err (take_err i 1) fun t => by
 split
 ·exact ok_lit _
 ·exact err_lit _ _ (by decide)
theorem units_err (i : Int) : errOk (unitsF L e i) := bX_err (take_err i 4) fun t => by
 split
 ·split
  ·exact err_lit _ _ (by decide)
  ·exact ok_lit _
 ·exact none_lit
theorem pair_err (i : Int) (bad : S46 → S46 → Bool) : errOk (pairF L e i bad) := bX_err (code_err i 0) fun lo => bX_err (code_err _ _) fun hi => by
 split
 ·exact err_lit _ _ (by decide)
 ·exact ok_lit _
theorem char_err (i : Int) : errOk (charF L e i) := bX_err (code_err i 0) fun lo => ok_lit _
theorem listL_err : ∀ (k : Nat) (i : Int) (o : List (List Int)), errOk (listL L e k i o)
 | 0, i, o => none_lit
 | k + 1, i, o => by
  rw [listL]
  split
  ·exact ok_lit _
  ·split
   ·exact bX_err (units_err i) fun u => listL_err k _ _
   ·exact none_lit
theorem list_err (i n : Int) : errOk (listF L e i n) := bX_err (take_err i 6) fun t => bX_err (listL_err _ _ _) fun r => by
 split
 ·exact ok_lit _
 ·exact err_lit _ _ (by decide)
theorem ent_err (i kind : Int) : errOk (entG kind L e i) := by
 have nx : ∀ {n : Int} {y : Ex S50}, errOk y → errOk (nxX n y) := fun h => bX_err h fun a => ok_lit _
 unfold entG
 split
 ·exact nx (pair_err _ _)
 split
 ·exact nx (bX_err (pair_err _ _) fun x => bX_err (to_err _ _) fun u => ok_lit _)
 split
 ·exact nx (bX_err (pair_err _ _) fun x => bX_err (to_err _ _) fun u => ok_lit _)
 split
 ·refine bX_err (pair_err _ _) fun x => ?_
  split
  ·exact bX_err (list_err _ _) fun u => ok_lit _
  ·refine bX_err (units_err _) fun u => ?_
   split
   ·exact err_lit _ _ (by decide)
   ·exact ok_lit _
 split
 ·exact nx (bX_err (char_err _) fun x => bX_err (units_err _) fun u => ok_lit _)
 ·exact nx (bX_err (char_err _) fun x => bX_err (to_err _ _) fun u => ok_lit _)
theorem secL_err (kind : Int) : ∀ (k : Nat) (i : Int) (o : List S50), errOk (secL kind L e k i o)
 | 0, i, o => none_lit
 | k + 1, i, o => by
  rw [secL]
  split
  ·exact ok_lit _
  ·split
   ·exact bX_err (ent_err i kind) fun u => secL_err kind k _ _
   ·exact none_lit
theorem section_err (kind i n : Int) : errOk (sectionF kind L e i n) := bX_err (secL_err _ _ _ _) fun r => by
 split
 ·exact ok_lit _
 ·exact err_lit _ _ (by decide)
theorem word_err (i : Int) (its : List S43) : errOk (wordE L e i its) := by
 unfold wordE
 split
 ·exact ok_lit _
 split
 ·exact ok_lit _
 split
 ·exact err_lit _ _ (by decide)
 split
 ·split
  ·exact err_lit _ _ (by decide)
  ·intro p hp
   obtain ⟨rs, hs, hr⟩ := Option.map_eq_some_iff.mp hp
   match rs, hr with
   | .error q, hr =>
    injection hr with hr
    rw [← hr]
    exact section_err _ _ _ q hs
 ·exact ok_lit _
theorem pairsE_err (opn : List Int) (t : S40) : errOk (some (pairsE opn t)) := by
 unfold pairsE
 split
 ·split
  ·exact ok_lit _
  ·exact err_lit _ _ (by decide)
 ·split
  ·split
   ·exact ok_lit _
   ·exact err_lit _ _ (by decide)
  ·exact ok_lit _
theorem runG_err : ∀ (k : Nat) (i : Int) (opn : List Int) (its : List S43), errOk (runG L e k i opn its)
 | 0, i, opn, its => none_lit
 | k + 1, i, opn, its => by
  rw [runG]
  split
  ·split
   ·split
    ·exact bX_err (word_err i its) fun r => runG_err k _ _ _
    ·exact none_lit
   ·exact bX_err (pairsE_err _ _) fun o => runG_err k _ _ _
  ·split
   ·exact ok_lit _
   ·exact err_lit _ _ (by decide)
theorem overAll (hf : Fit L) : ∀ (k : Nat) (i : Int) (opn : List Int) (its : List S43), 0 ≤ i → i ≤ L.length → (L.length : Int) - i < k → (its.length : Int) ≤ i → (∀ x ∈ its, itemP x) → ∃ r, runG L e k i opn its = some r ∧ ∀ l, r = .ok l → l.length ≤ L.length ∧ ∀ x ∈ l, itemP x
 | 0, i, opn, its, h0, h1, h2, h3, hp => by omega
 | k + 1, i, opn, its, h0, h1, h2, h3, hp => by
  have hl := hf.1
  rw [runG]
  split
  ·rename_i hlt
   split
   ·rw [if_pos (by omega)]
    have hw : ∃ r, wordE L e i its = some r := by
     unfold wordE
     split
     ·exact ⟨_, rfl⟩
     split
     ·exact ⟨_, rfl⟩
     split
     ·exact ⟨_, rfl⟩
     split
     ·rename_i hb
      split
      ·exact ⟨_, rfl⟩
      ·rcases hf.2 with hs | hs
       ·obtain ⟨r, hr⟩ := section_some hs hl _ (begun_kind hb) (i := i + 1) (e := e) (by omega) (by omega) (aheadF L i 1).f2
        rw [hr]
        exact ⟨_, rfl⟩
       ·rw [hs _ (rd_mem h0 hlt)] at hb
        cases hb
     ·exact ⟨_, rfl⟩
    obtain ⟨r, hr⟩ := hw
    rw [hr]
    cases r with
    | error p => exact ⟨_, rfl, fun l h => by cases h⟩
    | ok q =>
     have hq := word_in h0 hlt hp hr
     exact overAll hf k q.1 [] q.2 (by omega) hq.2.1 (by omega) (by omega) hq.2.2.2
   ·cases hpr : pairsE opn (rd_T40 L i) with
    | error p => exact ⟨_, rfl, fun l h => by cases h⟩
    | ok opn' => exact overAll hf k (i + 1) opn' its (by omega) (by omega) (by omega) (by omega) hp
  ·split
   ·exact ⟨_, rfl, fun l h => by injection h with h; subst h; exact ⟨by omega, hp⟩⟩
   ·exact ⟨_, rfl, fun l h => by cases h⟩
end
end Go.Proofs.YtjplnhdplpiogaaGreatDoor.M
end
section
namespace Go.Proofs.YtjplnhdplpiogaaGreatDoor.M
open Go.RowKit Go.Proofs.YtjplnhdplpiogaaGreatDoorW.PrintWords Go.Proofs.YtjplnhdplpiogaaGreatDoorW.PrintLast Go.Proofs.YtjplnhdplpiogaaGreatDoorW.PrintMore
set_option linter.unusedVariables false
set_option linter.unusedSimpArgs false
set_option maxRecDepth 100000
set_option maxHeartbeats 8000000
/-- How much text there is, each counted up to 3000. -/
def much (l : List S40) : Int := (l.map fun t => min (t.f3.size : Int) 3000).sum
theorem much_cons (t : S40) (l : List S40) : much (t :: l) = min (t.f3.size : Int) 3000 + much l := rfl
theorem much_bounds : ∀ l : List S40, 0 ≤ much l ∧ much l ≤ 3000 * l.length
 | [] => ⟨Int.le_refl _, Int.le_refl _⟩
 | t :: l => by
  have := much_bounds l
  rw [much_cons, List.length_cons]
  omega
theorem few_loop (l : List S40) (hl : l.length ≤ 300) : ∀ (d i k : Nat) (acc : Int), i + d = l.length → 0 ≤ acc → acc ≤ 3000 * i → d + 1 ≤ k → hornbookref04_Few.l0 k l acc (i : Int) = some (decide (acc + much (l.drop i) ≤ 3000))
 | 0, i, k, acc, hd, h0, h1, hk => by
  obtain ⟨k, rfl⟩ : ∃ n, k = n + 1 := ⟨k - 1, by omega⟩
  rw [hornbookref04_Few.l0, if_neg (by omega), if_pos (by omega), List.drop_eq_nil_of_le (by omega)]
  simp [much]
 | d + 1, i, k, acc, hd, h0, h1, hk => by
  obtain ⟨k, rfl⟩ : ∃ n, k = n + 1 := ⟨k - 1, by omega⟩
  have hi : i < l.length := by omega
  have hm : mn ((rd_T40 l (i : Int)).f3.size : Int) 3000 = min ((l[i].f3.size : Int)) 3000 := by
   rw [rd40_nat0 l i hi]
   unfold mn
   omega
  rw [hornbookref04_Few.l0, if_pos (by omega), if_pos (by omega), if_pos (by omega), hm, wrap_small (by omega) (by omega), wrap_small (by omega) (by omega), show ((i : Int) + 1) = ((i + 1 : Nat) : Int) by omega, few_loop l hl d (i + 1) k _ (by omega) (by omega) (by omega) (by omega), List.drop_eq_getElem_cons hi, much_cons, Int.add_assoc]
theorem few_long (l : List S40) (hl : ¬ l.length ≤ 300) : ∀ (d i k : Nat) (acc : Int), i + d = 300 → 0 ≤ acc → acc ≤ 3000 * i → d + 1 ≤ k → hornbookref04_Few.l0 k l acc (i : Int) = some false
 | 0, i, k, acc, hd, h0, h1, hk => by
  obtain ⟨k, rfl⟩ : ∃ n, k = n + 1 := ⟨k - 1, by omega⟩
  rw [hornbookref04_Few.l0, if_pos (by omega), if_neg (by omega), if_neg (by omega)]
 | d + 1, i, k, acc, hd, h0, h1, hk => by
  obtain ⟨k, rfl⟩ : ∃ n, k = n + 1 := ⟨k - 1, by omega⟩
  have hm : 0 ≤ mn ((rd_T40 l (i : Int)).f3.size : Int) 3000 ∧ mn ((rd_T40 l (i : Int)).f3.size : Int) 3000 ≤ 3000 := by unfold mn; omega
  rw [hornbookref04_Few.l0, if_pos (by omega), if_pos (by omega), if_pos (by omega), wrap_small (by omega) (by omega), wrap_small (by omega) (by omega), show ((i : Int) + 1) = ((i + 1 : Nat) : Int) by omega]
  exact few_long l hl d (i + 1) k _ (by omega) (by omega) (by omega) (by omega)
theorem begun_size {s : ByteArray} (h : (begunF s).2 = true) : 5 ≤ s.size ∧ s.size ≤ 40 := by
 unfold begunF cutB at h
 by_cases hc : 5 ≤ s.size ∧ (s.extract 0 5).toList = (⟨#[98, 101, 103, 105, 110]⟩ : ByteArray).toList
 ·rw [if_pos hc] at h
  simp only [Bool.true_and, decide_eq_true_eq] at h
  have key : ∀ (t : ByteArray) (l : List ByteArray) (i : Int), (∀ x ∈ l, x.toList.length ≤ 20) → 0 ≤ i → 0 ≤ idxAt t l i → t.toList.length ≤ 20 := by
   intro t l
   induction l with
   | nil => intro i _ _ h; simp [idxAt] at h
   | cons x l ih =>
    intro i hx hi h
    simp only [idxAt] at h
    split at h
    ·rename_i he; rw [he]; exact hx x (by simp)
    ·exact ih (i + 1) (fun y hy => hx y (by simp [hy])) (by omega) h
  have h1 := key (s.extract 5 s.size) names7 0 (by decide +kernel) (by omega) h
  rw [ByteArray.toList_eq] at h1
  have h2 : (s.extract 5 s.size).data.toList.length = (s.extract 5 s.size).size := rfl
  rw [h2, ByteArray.size_extract] at h1
  omega
 ·rw [if_neg hc] at h; simp at h
theorem much_mem : ∀ {l : List S40} {t : S40}, t ∈ l → min (t.f3.size : Int) 3000 ≤ much l
 | x :: l, t, h => by
  have := much_bounds l
  rw [much_cons]
  rcases List.mem_cons.mp h with rfl | h
  ·omega
  ·have := much_mem h
   omega
theorem much_two : ∀ {l : List S40} {t u : S40}, t ∈ l → u ∈ l → t.f3.size ≤ 40 → 1000000 < u.f3.size → 5 ≤ t.f3.size → 3000 < much l
 | x :: l, t, u, ht, hu, h1, h2, h3 => by
  have hb := much_bounds l
  rw [much_cons]
  rcases List.mem_cons.mp ht with e1 | ht1
  ·rcases List.mem_cons.mp hu with e2 | hu1
   ·rw [e1] at h1; rw [e2] at h2; omega
   ·have := much_mem hu1
    rw [e1] at h3
    omega
  ·rcases List.mem_cons.mp hu with e2 | hu1
   ·have := much_mem ht1
    rw [e2] at h2
    omega
   ·have := much_two ht1 hu1 h1 h2 h3
    omega
theorem few_fit (l : List S40) (h1 : l.length ≤ 300) (h2 : much l ≤ 3000) : Fit l := by
 refine ⟨h1, ?_⟩
 by_cases hx : ∀ t ∈ l, t.f3.size ≤ 1000000
 ·exact .inl hx
 ·refine .inr fun t ht => ?_
  cases hb : (begunF t.f3).2 with
  | false => rfl
  | true =>
   exfalso
   apply hx
   intro u hu
   refine Nat.le_of_not_lt fun hlt => ?_
   have hs := begun_size hb
   have := much_two ht hu hs.2 hlt hs.1
   omega
theorem few04 (l : List S40) {k : Nat} (hk : 302 ≤ k) : ∃ b, hornbookref04_Few.f k l = some b ∧ (b = true → Fit l) := by
 unfold hornbookref04_Few.f
 by_cases hl : l.length ≤ 300
 ·refine ⟨_, few_loop l hl l.length 0 k 0 (by omega) (by omega) (by omega) (by omega), fun h => ?_⟩
  have := of_decide_eq_true h
  rw [List.drop_zero] at this
  exact few_fit l hl (by omega)
 ·exact ⟨_, few_long l hl 300 0 k 0 (by omega) (by omega) (by omega) (by omega), fun h => by cases h⟩
theorem sound_eq (kind : Int) (x : S50) (h : soundP kind x) (hk : 0 ≤ kind ∧ kind ≤ 8) {k : Nat} (h1k : 1 ≤ k) : hornbooklaw05_sound.f k kind x.f0.f0 x.f0.f1 x.f1.f0 x.f1.f1 x.f2 x.f3 x.f4 = some true := by
 obtain ⟨k, rfl⟩ : ∃ n, k = n + 1 := ⟨k - 1, by omega⟩
 obtain ⟨a1, a2, a3, a4, a5, a6, a7, a8, a9⟩ := h
 unfold hornbooklaw05_sound.f
 have hr : x.f1.f1 < 4294967296 ∧ 0 ≤ x.f0.f1 := by
  obtain ⟨b0, b1⟩ := a1
  obtain ⟨c0, c1⟩ := a2
  omega
 have hd : wrap64 (x.f1.f1 - x.f0.f1) = x.f1.f1 - x.f0.f1 := by unfold wrap64; omega
 have hend : hornbooklaw05_sound.j0 (k + 1) kind (x.f1.f1 - x.f0.f1) false x.f0.f0 x.f0.f1 x.f1.f0 x.f1.f1 x.f2 x.f3 x.f4 = some true := by
  rw [hornbooklaw05_sound.j0, if_neg (by decide)]
  by_cases h7 : kind < 7
  ·obtain ⟨h3, h4⟩ := a8 h7
   rw [if_pos h7, h3, h4, if_pos (by rfl)]
   rfl
  ·rw [if_neg h7]
   rcases a9 (by omega) with ⟨h4, hl, h3⟩ | ⟨h4, h1, h2, hu, hl⟩
   ·have hp : 0 < x.f4.length := List.length_pos_iff.mpr h4
    rw [if_pos (by omega), wrap_small (by omega) (by omega), if_pos hl, h3]
    rfl
   ·have hw : wrap64 ((x.f3.length : Int) - 1) = (x.f3.length : Int) - 1 := wrap_small (by omega) (by omega)
    rw [if_neg (by rw [h4]; simp), if_pos (by omega), if_pos (by omega), hw, if_pos (by omega), if_pos (by omega)]
    unfold lastI at hu hl
    rw [wrap_small (by omega) (by omega), decide_eq_true hl]
 rw [sane_eq _ _ a1, Option.bind_some, if_pos rfl, sane_eq _ _ a2, Option.bind_some, if_pos rfl, if_pos a3, hd, if_neg (by omega), if_neg (by omega), if_neg (by omega)]
 by_cases h3 : kind = 3
 ·have := a7 h3
  rw [if_pos h3, wrap_small (by omega) (by omega), decide_eq_false (by omega)]
  exact hend
 ·rw [if_neg h3]
  exact hend
theorem rd43_nat (L : List S43) (i : Nat) (h : i < L.length) : rd_T43 L (i : Int) = L[i] := by simp [rd_T43, h]
theorem rd50_nat (L : List S50) (i : Nat) (h : i < L.length) : rd_T50 L (i : Int) = L[i] := by simp [rd_T50, h]
theorem sound_in (l : List S43) (hl : l.length ≤ 300) (i : Nat) (hi : i < l.length) (hp : itemP l[i]) (r : Nat → Prop) (hr : ∀ k, r k → hornbooklaw05_SynSound.l0 k true l ((i + 1 : Nat) : Int) = some true) : ∀ (d j k : Nat), j + d = l[i].f4.length → (∀ q, k ≤ q + (d + 1) → r q) → d + 2 ≤ k → hornbooklaw05_SynSound.l1 k true l (i : Int) (j : Int) = some true
 | 0, j, k, hd, hk, h2 => by
  obtain ⟨k, rfl⟩ : ∃ n, k = n + 1 := ⟨k - 1, by omega⟩
  rw [hornbooklaw05_SynSound.l1, if_pos (by omega), if_pos (by omega), rd43_nat l i hi, if_neg (by omega), wrap_small (by omega) (by omega), show ((i : Int) + 1) = ((i + 1 : Nat) : Int) by omega]
  exact hr k (hk k (by omega))
 | d + 1, j, k, hd, hk, h2 => by
  obtain ⟨k, rfl⟩ : ∃ n, k = n + 1 := ⟨k - 1, by omega⟩
  have hj : j < l[i].f4.length := by omega
  have h100 := hp.2.2.1
  rw [hornbooklaw05_SynSound.l1, if_pos (by omega), if_pos (by omega), rd43_nat l i hi, if_pos (by omega), if_pos (by omega), rd50_nat _ j hj, sound_eq _ _ (hp.2.2.2.2 _ (List.getElem_mem _)) ⟨hp.1, hp.2.1⟩ (by omega), Option.bind_some, if_pos rfl, wrap_small (by omega) (by omega), show ((j : Int) + 1) = ((j + 1 : Nat) : Int) by omega]
  exact sound_in l hl i hi hp r hr d (j + 1) k (by omega) (fun q hq => hk q (by omega)) (by omega)
theorem sound_out (l : List S43) (hl : l.length ≤ 300) (hp : ∀ x ∈ l, itemP x) : ∀ (d i k : Nat), i + d = l.length → 200 * d + 1 ≤ k → hornbooklaw05_SynSound.l0 k true l (i : Int) = some true
 | 0, i, k, hd, hk => by
  obtain ⟨k, rfl⟩ : ∃ n, k = n + 1 := ⟨k - 1, by omega⟩
  rw [hornbooklaw05_SynSound.l0, if_neg (by omega)]
 | d + 1, i, k, hd, hk => by
  obtain ⟨k, rfl⟩ : ∃ n, k = n + 2 := ⟨k - 2, by omega⟩
  have hi : i < l.length := by omega
  have hx := hp _ (List.getElem_mem hi)
  obtain ⟨h1, h2, h3, h4, h5⟩ := hx
  have hj : hornbooklaw05_SynSound.j1 (k + 1) true l (i : Int) false = some true := by
   rw [hornbooklaw05_SynSound.j1, if_neg (by decide)]
   exact sound_in l hl i hi ⟨h1, h2, h3, h4, h5⟩ (fun q => 200 * d + 1 ≤ q) (fun q hq => sound_out l hl hp d (i + 1) q (by omega) hq) l[i].f4.length 0 k (by omega) (fun q hq => by omega) (by omega)
  rw [hornbooklaw05_SynSound.l0, if_pos (by omega), if_pos (by omega), rd43_nat l i hi, if_neg (by omega), if_neg (by omega), if_neg (by omega)]
  by_cases hk2 : l[i].f0 < 2
  ·rw [if_pos hk2, h4 hk2]
   exact hj
  ·rw [if_neg hk2]
   exact hj
theorem SynSound : hornbooklaw05_SynSound.Pure := by
 intro l0 a1 _ _ _ _
 refine ⟨70000, ?_⟩
 unfold hornbooklaw05_SynSound.f
 obtain ⟨b, hb, hfit⟩ := few04 l0 (k := 70000) (by decide)
 rw [awake5 (by decide), Option.bind_some, hb, Option.bind_some]
 cases b with
 | false => rw [if_neg (by decide)]
 | true =>
  have hf := hfit rfl
  obtain ⟨r, hr, hi⟩ := overAll (e := a1) hf (l0.length + 1) 0 [] [] (by omega) (by omega) (by omega) (by simp) (fun x hx => by cases hx)
  rw [if_pos rfl]
  unfold syn_Parse.f
  rw [hr, Option.bind_some]
  cases r with
  | ok its =>
   dsimp only
   rw [Option.bind_some, if_pos rfl]
   have h3 := hi its rfl
   have h4 := hf.1
   exact sound_out its (by omega) h3.2 its.length 0 70000 (by omega) (by omega)
  | error p =>
   have hp := runG_err (L := l0) (e := a1) _ _ _ _ p hr
   dsimp only
   rw [if_neg hp, Option.bind_some]
   dsimp only
   rw [if_neg hp, if_pos rfl]
   rfl
end Go.Proofs.YtjplnhdplpiogaaGreatDoor.M
end
section
namespace Go.Proofs.YtjplnhdplpiogaaGreatDoor.M
open Go Go.ChangeShapes Go.WideShapes Go.RowKit Go.Proofs.YtjplnhdplpiogaaGreatDoorW.PrintWords
set_option linter.unusedVariables false
theorem weights_all {H : Type} {P : Program} {e : TypeId} {l : List (DataW H)} {y : DataW H} (hy : y ∈ l) {q : Nat} (hq : q ∈ DataW.weights P e y) : q ∈ DataW.weightsAll P e l := by
 induction l with
 | nil => cases hy
 | cons z r ih =>
  rw [DataW.weightsAll, List.mem_append]
  rcases List.mem_cons.1 hy with rfl | h
  ·exact .inl hq
  ·exact .inr (ih h)
section
variable {H α : Type} {enc : TypeId × Value → H} {P : Program} {W : World} {base : Nat} {spare : Nat → Bool} {held : Bool} {t e : TypeId}
/-- A slice's one cell, opened: its elements by their kind. -/
theorem open_cells (d : Kd α) (Q : α → Prop) (hu : P.underlying t = some (.slice e)) (hc : P.cellsOf e = d.sz)
  (he : ∀ n cs y, DataW.trod enc P W base spare held n e cs = some y → (∀ q ∈ DataW.weights P e y.1, q ≤ reachBytes) → ∃ x : α, d.K W x cs ∧ Q x)
  {n : Nat} {cs : List Value} {y : DataW H × List MemPlace} (h : DataW.trod enc P W base spare held n t cs = some y) (hw : ∀ q ∈ DataW.weights P t y.1, q ≤ reachBytes) :
  ∃ (a : Option Addr) (len cap : Nat) (l : List α), cs = [.slice a len cap] ∧ l.length = len ∧ l.length ≤ cap ∧ l.length ≤ maxLen ∧ d.C W a l.length l ∧ l.length * P.bytesOf e ≤ reachBytes ∧ ∀ x ∈ l, Q x := by
 rcases Go.Deep.open_slice hu h with ⟨rfl, rfl⟩ | ⟨a, len, cap, m, n', D, Pl, rfl, hb, hl, hm, hmm, rfl, hx⟩
 ·exact ⟨none, 0, 0, [], rfl, rfl, Nat.le_refl _, Nat.zero_le _, Kd.C_nil _ _, by simp, fun x h => by cases h⟩
 have hle : len ≤ m := by
  rw [hmm]
  split <;> omega
 have hws : ∀ i, i < len → ∀ q ∈ DataW.weights P e (D i), q ≤ reachBytes := by
  intro i hi q hq
  refine hw q ?_
  show q ∈ DataW.weights P t (DataW.slice _ _)
  rw [DataW.weights, hu]
  exact List.mem_cons_of_mem _ (List.mem_append_left _ (weights_all (List.mem_map.2 ⟨i, List.mem_range.2 hi, rfl⟩) hq))
 have each : ∀ i, i < len → ∃ x : α, (∃ cs', W.cells? base (a.add (i * P.cellsOf e)) (P.cellsOf e) = some cs' ∧ d.K W x cs') ∧ Q x := by
  intro i hi
  obtain ⟨cs', h1, h2⟩ := hx i (Nat.lt_of_lt_of_le hi hle)
  obtain ⟨x, h3, h4⟩ := he _ _ _ h2 (hws i hi)
  exact ⟨x, ⟨cs', h1, h3⟩, h4⟩
 have build : ∀ k, k ≤ len → ∃ l : List α, l.length = k ∧ ∀ i x, l[i]? = some x → (∃ cs', W.cells? base (a.add (i * P.cellsOf e)) (P.cellsOf e) = some cs' ∧ d.K W x cs') ∧ Q x := by
  intro k
  induction k with
  | zero => exact fun _ => ⟨[], rfl, fun i x h => by simp at h⟩
  | succ k ih =>
   intro hk
   obtain ⟨l, hl1, hl2⟩ := ih (by omega)
   obtain ⟨x, hx1⟩ := each k (by omega)
   refine ⟨l ++ [x], by simp [hl1], fun i z hz => ?_⟩
   rcases Nat.lt_or_ge i l.length with h0 | h0
   ·rw [List.getElem?_append_left h0] at hz
    exact hl2 i z hz
   ·rw [List.getElem?_append_right h0] at hz
    have h1 : i - l.length < 1 := by
     have := (List.getElem?_eq_some_iff.1 hz).1
     simpa using this
    have h2 : i = k := by omega
    subst h2
    have h3 : x = z := by
     rw [show i - l.length = 0 by omega] at hz
     simpa using hz
    subst h3
    exact hx1
 obtain ⟨l, hl1, hl2⟩ := build len (Nat.le_refl _)
 subst hl1
 refine ⟨some a, l.length, cap, l, rfl, rfl, hl, Nat.le_trans hl hm, ⟨rfl, Nat.le_trans (Nat.le_trans hl hm) (by decide), fun _ => ⟨a, rfl, fun j p hj => ?_⟩⟩, ?_, fun x hx' => ?_⟩
 ·obtain ⟨⟨cs', h1, h2⟩, _⟩ := hl2 j p hj
  rw [hc] at h1
  obtain ⟨_, h3, h4⟩ := World.cells?_some h1
  refine ⟨cs', h3, h2, fun i u hi => ?_⟩
  have h5 : i < d.sz := by
   have := (List.getElem?_eq_some_iff.1 hi).1
   omega
  rw [← Go.Deep.add_add, h4 i h5, hi]
 ·refine Nat.le_trans ?_ (hw ((((List.range l.length).map D).length + ((List.range (m - l.length)).map fun j => D (l.length + j)).length) * P.bytesOf e) ?_)
  ·refine Nat.mul_le_mul_right _ ?_
   simp
  ·show _ ∈ DataW.weights P t (DataW.slice _ _)
   rw [DataW.weights, hu]
   exact List.mem_cons_self
 ·obtain ⟨i, hi⟩ := List.getElem?_of_mem hx'
  exact (hl2 i x hi).2
/-- .. as an argument of a law. -/
theorem open_rows (d : Kd α) (Q : α → Prop) {a : Option Addr} {len cap : Nat} {dt : DataW H} {ps : List MemPlace} {ts : List TypeId} {ds : List (DataW H)} {j : Nat}
  (hsz : (DataW.weightsEach P ts ds).all (· ≤ reachBytes) = true) (ht : ts[j]? = some t) (hd : ds[j]? = some dt) (hu : P.underlying t = some (.slice e)) (hc : P.cellsOf e = d.sz) {B : Nat} (hB : P.bytesOf e = B)
  (he : ∀ n cs y, DataW.trod enc P W base spare held n e cs = some y → (∀ q ∈ DataW.weights P e y.1, q ≤ reachBytes) → ∃ x : α, d.K W x cs ∧ Q x)
  (h : DataW.Trod enc P W base spare held t (.slice a len cap) dt ps) :
  ∃ l : List α, l.length = len ∧ l.length ≤ cap ∧ l.length ≤ maxLen ∧ d.C W a l.length l ∧ l.length * B ≤ 140737488351232 ∧ ∀ x ∈ l, Q x := by
 obtain ⟨fuel, hf⟩ := h
 obtain ⟨a', len', cap', l, hcs, h1, h2, h3, h4, h5, h6⟩ := open_cells d Q hu hc he hf (fun q hq => by
  have := List.all_eq_true.1 hsz _ (DataW.weights_mem_each ht hd q hq)
  simpa using this)
 simp [Value.cells] at hcs
 obtain ⟨rfl, rfl, rfl⟩ := hcs
 rw [hB] at h5
 exact ⟨l, h1, h2, h3, h4, h5, h6⟩
theorem el_string (he : P.underlying e = some .string) : ∀ n cs (y : DataW H × List MemPlace), DataW.trod enc P W base spare held n e cs = some y → (∀ q ∈ DataW.weights P e y.1, q ≤ reachBytes) → ∃ x : ByteArray, Kd.string.K W x cs ∧ x.size ≤ 140737488351232 := by
 intro n cs y h hw
 obtain ⟨s, rfl, rfl, hs⟩ := DataW.trod_string he h
 refine ⟨s, rfl, ?_⟩
 have := hw s.data.toList.length (by simp [DataW.weights])
 rwa [data_length] at this
theorem el_int {k : IntKind} (he : P.underlying e = some (.int k)) : ∀ n cs (y : DataW H × List MemPlace), DataW.trod enc P W base spare held n e cs = some y → (∀ q ∈ DataW.weights P e y.1, q ≤ reachBytes) → ∃ x : Int, (Kd.int k).K W x cs ∧ (Lit.int k x).wf = true := by
 intro n cs y h hw
 obtain ⟨s, rfl, rfl, hs⟩ := DataW.trod_int he h
 exact ⟨s, rfl, hs⟩
/-- A struct: fields are opened one by one; a field's cells and weights. -/
theorem struct_len {fs : Array Field} {n : Nat} {cs : List Value} {y : DataW H × List MemPlace} (ht : P.underlying t = some (.struct fs)) (h : DataW.trod enc P W base spare held n t cs = some y) {c : Nat} (hc : P.cellsOf t = c) : cs.length = c := by
 obtain ⟨xs, n', _, rfl, hl, hlen, hf⟩ := DataW.trod_struct ht h
 rw [hl, hc]
theorem struct_field {fs : Array Field} {n : Nat} {cs : List Value} {y : DataW H × List MemPlace} (ht : P.underlying t = some (.struct fs)) (h : DataW.trod enc P W base spare held n t cs = some y) (hw : ∀ q ∈ DataW.weights P t y.1, q ≤ reachBytes)
  (i : Nat) (f : Field) (hi : fs[i]? = some f) (ft : TypeId) (o s : Nat) (hft : f.type = ft) (ho : f.offset = o) (hs : P.cellsOf ft = s) :
  ∃ n' y', DataW.trod enc P W base spare held n' ft ((cs.drop o).take s) = some y' ∧ ∀ q ∈ DataW.weights P ft y'.1, q ≤ reachBytes := by
 obtain ⟨xs, n', _, rfl, hl, hlen, hf⟩ := DataW.trod_struct ht h
 have h1 := hf i f hi
 have h2 : i < xs.length := by
  rw [hlen]
  exact (Array.getElem?_eq_some_iff.1 hi).1
 rw [List.getElem?_eq_getElem h2, hft, ho, hs] at h1
 refine ⟨n', _, h1, fun q hq => hw q ?_⟩
 show q ∈ DataW.weights P t (DataW.agg _)
 rw [DataW.weights, ht]
 refine DataW.weights_mem_each (j := i) (t := ft) (d := xs[i].1) ?_ ?_ q hq
 ·rw [List.getElem?_map, Array.getElem?_toList, hi]
  exact congrArg some hft
 ·rw [List.getElem?_map, List.getElem?_eq_getElem h2]
  rfl
end
end Go.Proofs.YtjplnhdplpiogaaGreatDoor.M
end
section
/- Of any tokens that are few, and any end, the law SynSound of hornbooklaw05 answers true: what is put together has entries that may be: codes that may be, of one number of bytes, in order, that go to what may be, and no more entries than may be. No condition beside what the row states. -/
namespace Go.Proofs.YtjplnhdplpiogaaGreatDoor.synSound
open Go Go.ChangeShapes Go.WideShapes Go.ChangeAt Go.RowKit
open Go.ChangeMaps (open_string shut_string)
set_option linter.unusedVariables false
open Go.Proofs.YtjplnhdplpiogaaGreatDoorW.PrintWords
theorem own : ownKnob Tryz.prog.godebug = none := by kernel_rfl
theorem laidOut : laidOutB Tryz.prog = true := by kernel_rfl
theorem el_S40 {H : Type} {enc : TypeId × Value → H} {W : World} {base : Nat} {spare : Nat → Bool} {held : Bool} : ∀ n cs (y : DataW H × List MemPlace), DataW.trod enc Tryz.prog W base spare held n 40 cs = some y → (∀ q ∈ DataW.weights Tryz.prog 40 y.1, q ≤ reachBytes) → ∃ x : M.S40, M.k40.K W x cs ∧ ((Lit.int .i64 x.f0).wf = true ∧ (Lit.int .i64 x.f1).wf = true ∧ (Lit.int .i64 x.f2).wf = true ∧ x.f3.size ≤ 140737488351232) := by
 intro n cs y h hw
 have hl := M.struct_len Tryz.underlying40 h (c := 4) (by kernel_rfl)
 obtain ⟨n0, y0, h0, w0⟩ := M.struct_field Tryz.underlying40 h hw 0 _ rfl 3 0 1 rfl rfl (by kernel_rfl)
 obtain ⟨x0, kx0, q0⟩ := (M.el_int Tryz.underlying3) _ _ _ h0 w0
 obtain ⟨n1, y1, h1, w1⟩ := M.struct_field Tryz.underlying40 h hw 1 _ rfl 3 1 1 rfl rfl (by kernel_rfl)
 obtain ⟨x1, kx1, q1⟩ := (M.el_int Tryz.underlying3) _ _ _ h1 w1
 obtain ⟨n2, y2, h2, w2⟩ := M.struct_field Tryz.underlying40 h hw 2 _ rfl 3 2 1 rfl rfl (by kernel_rfl)
 obtain ⟨x2, kx2, q2⟩ := (M.el_int Tryz.underlying3) _ _ _ h2 w2
 obtain ⟨n3, y3, h3, w3⟩ := M.struct_field Tryz.underlying40 h hw 3 _ rfl 9 3 1 rfl rfl (by kernel_rfl)
 obtain ⟨x3, kx3, q3⟩ := (M.el_string Tryz.underlying9) _ _ _ h3 w3
 have hcs : cs = (cs.drop 0).take 1 ++ ((cs.drop 1).take 1 ++ ((cs.drop 2).take 1 ++ ((cs.drop 3).take 1))) := by
  match cs, hl with
  | [c0, c1, c2, c3], _ => rfl
 exact ⟨⟨x0, x1, x2, x3⟩, ⟨_, _, hcs, kx0, _, _, rfl, kx1, _, _, rfl, kx2, kx3⟩, q0, q1, q2, q3⟩
set_option maxRecDepth 100000 in
theorem lifted (os : Os) (started : os.Started) (H : Type) (enc : TypeId × Value → H) :
  ReturnsInHanded {} Tryz.checked os 5 .any (fun w args => (Rows.synSoundSpec.pre enc Tryz.prog Tryz.f5 Rows.synSoundRow.domain false w args ∧ laidMetH Tryz.prog Rows.synSoundRow.laid w) ∧ sizedMet enc Tryz.prog Tryz.f5 (OpenSpec.ofChange Rows.synSoundSpec) false w args)
   (Rows.synSoundSpec.post enc Tryz.prog Tryz.f5 false true false false) := by
 refine M.returns_both (C := Tryz.checked) (X := fun w _ => laidMetH Tryz.prog Rows.synSoundRow.laid w) (fun _ _ _ hh h => h.of_heap hh) own started (by kernel_rfl) Tryz.func5
  (ChangeSpec.witness_shaped (enc := enc) (C := Tryz.checked) (os := os) (X := fun w _ => laidMetH Tryz.prog Rows.synSoundRow.laid w) false (World.laidAll Tryz.prog os Rows.synSoundRow.laid) #[.slice none 0 0, .int .i64 0] 8 (World.laidAll_os _ _ _)
   (World.shaped_of_ZipB (by kernel_rfl) (by kernel_rfl)) (by kernel_rfl) (by kernel_rfl) (by kernel_rfl)
   (by rw [MakeChecks.laidMetH_plain _ _ _ (by kernel_rfl)]; exact laidMet_laidAll _ (by kernel_rfl) (by kernel_rfl))) ?_
 intro W base args ds gs before hval0 hW hcnd hsz0 hL hshape
 have hsz : (DataW.weightsEach Tryz.prog (Tryz.f5.params.toList ++ Rows.synSoundSpec.plain.varTypes Tryz.prog) (ds ++ gs)).all (· ≤ reachBytes) = true := hsz0
 have hval : ∀ (j : Nat) t v, Tryz.f5.params[j]? = some t → args[j]? = some v → Value.okWide Tryz.prog W .any base t v := hval0
 have hLp := hL
 rw [MakeChecks.laidMetH_plain _ _ _ (by kernel_rfl)] at hLp
 have hG : M.GW W := M.GW.of_mets (hLp.tail.tail.tail.tail) (hLp.tail.tail.tail.tail.tail) (hLp.tail.tail) hshape
 have hW' := hW
 obtain ⟨p, q, hA0, hV, rfl, hfz, hnd⟩ := hW
 have hA : DataW.TrodAll enc Tryz.prog W 0 (fun _ => true) true Tryz.f5.params.toList args.toList ds p := hA0
 rw [Tryz.params5] at hA hval hsz
 obtain ⟨v0, vs0, d0, ds0, p0, q0, hargs, rfl, rfl, h0, r0⟩ := trodAll_cons hA
 obtain ⟨v1, vs1, d1, ds1, p1, q1, rfl, rfl, rfl, h1, r1⟩ := trodAll_cons r0
 obtain ⟨rfl, rfl, rfl⟩ := trodAll_nil r1
 obtain rfl : args = #[v0, v1] := by cases args; simp_all
 obtain ⟨rfl, rfl⟩ := trodVars_none hV
 obtain ⟨a0, len0, cap0, rfl⟩ := okWide_slice Tryz.underlying22 (hval 0 22 v0 rfl rfl)
 have k0 := h0
 have lt0 : ∀ x ∈ p0, x.block < W.heap.size := by obtain ⟨m, hm⟩ := k0; exact DataW.trod_lt m _ _ _ hm
 obtain ⟨l0, el0, hc0, w0, hr0, y0, q0⟩ := M.open_rows M.k40 (fun z => ((Lit.int .i64 z.f0).wf = true ∧ (Lit.int .i64 z.f1).wf = true ∧ (Lit.int .i64 z.f2).wf = true ∧ z.f3.size ≤ 140737488351232)) hsz (j := 0) (t := 22) rfl rfl Tryz.underlying22 (by kernel_rfl) (B := 40) (by kernel_rfl) el_S40 h0
 subst el0
 obtain ⟨a1, rfl, rfl, rfl, w1⟩ := open_int Tryz.underlying3 (hval 1 3 v1 rfl rfl) h1
 clear hA0 hval0 hsz0 hsz
 refine (M.hornbooklaw05_SynSound.walk M.SynSound a0 cap0 l0 a1 W hr0 hc0 w0 y0 q0 w1 hG).mono fun e W' ⟨he, bel⟩ => ?_
 subst he
 exact ⟨_, rfl, _, _, _, [], _, [], hW', trodAll_mk1 (shut_bool Tryz.underlying4 _), (trodAll_cons_mk (Below.trod laidOut (by kernel_rfl) (of_decide_eq_true (by kernel_rfl)) k0 bel lt0) (trodAll_cons_mk (shut_int Tryz.underlying3 w1) trodAll_mk0)), rfl, bel.frame _, fun h => by cases h⟩
theorem over : Rows.synSoundRow.holds Tryz.pinned (OpenSpec.ofChange Rows.synSoundSpec) :=
 OpenClaim.holds_of_wide 5 Tryz.f5 rfl rfl rfl rfl rfl rfl rfl ⟨rfl, rfl, rfl, rfl, rfl⟩ rfl rfl rfl rfl rfl (by kernel_rfl) Tryz.func5 (by kernel_rfl)
  (of_decide_eq_true (by kernel_rfl)) (by unfold Func.isWrapper; first | (rw [if_pos (by decide +kernel)]; kernel_rfl) | (rw [if_neg (by decide +kernel)]; exact ⟨rfl, rfl⟩))
  (fun os started H enc _ => lifted os started H enc)
theorem proved : Rows.SynSoundSaid := over
theorem card : Rows.SynSoundCardSaid :=
 Claim7.holds_tied_plain_at .later [] [.data, .data, .data, .data, .sentinel, .sentinel, .pinned] true (true, "4e55956983aa73bdb1e4d865d2dcbe5cb817dcd8c2639282ff6b9f4ed72e1efa") true
  proved (fun _ h => by cases h) (by kernel_rfl) (fun _ h => by cases h) synSound_row_tie rfl ⟨rfl, rfl⟩ (by kernel_rfl) rfl
  (fun f fn hf hfn => by
   obtain rfl : f = 5 := Option.some.inj ((show Tryz.prog.funcNamed "hornbook/hornbooklaw05.SynSound" = some 5 by kernel_rfl).symm.trans hf) |>.symm
   obtain rfl : fn = Tryz.f5 := (Option.some.inj (Tryz.func5.symm.trans hfn)).symm
   exact ⟨by kernel_rfl, fun j t ht => by
    rw [Tryz.params5] at ht
    have hm : t ∈ [22, 3] := by simpa using Array.mem_of_getElem? ht
    have hall : ([22, 3].all fun u => !Tryz.prog.wantsStandIn u) = true := by kernel_rfl
    exact (show Tryz.prog.wantsStandIn t = false by simpa using List.all_eq_true.1 hall t hm)⟩)
  (by kernel_rfl)
end Go.Proofs.YtjplnhdplpiogaaGreatDoor.synSound
namespace Go.Proofs.YtjplnhdplpiogaaGreatDoor
/-- The statement, under a short name, for the claim. -/
theorem synSound_holds : Rows.SynSoundCardSaid := synSound.card
#print axioms synSound_holds
end Go.Proofs.YtjplnhdplpiogaaGreatDoor
end
