/- Packed by this session's program hbpack.py out of this claim's own texts (Q13, Q59, Sh, Q60, Sh2, Q91, Q61, Q39, Mp, Lr, Q64, Q63, Q40, Q41, Bd, Q65, Q117, Q96, Pl, Q42, Q68, Q69, Q43, Q95, Q70, Q72, Q44, Is, Q73): the same declarations, without those that the claim does not use. -/
import Derived.Test.YtjplnhdplpiogaaGreatDoorPkSynDeep2
import Derived.Shelf.Strings.Builder1
import Derived.Shelf.Strings.Trim
import Derived.Shelf.Small.Utf8
import Derived.Shelf.Small.Strs
import Derived.Shelf.Strings.BuilderF
import Derived.Shelf.Strings.BuilderK
import Derived.Shelf.Strconv.Itoa0
import Derived.Shelf.Strconv.Itoa1
import Derived.Shelf.LaysM
import Derived.Shelf.Strconv.Itoa2
import Derived.Shelf.Strconv.Itoa3
import Derived.Shelf.Strconv.ParseIntEmpty
import Derived.Shelf.Strconv.Clone
import Derived.Shelf.Strconv.SyntaxError
import Derived.Shelf.LaysC
import Derived.Shelf.Strconv.ToError
import Derived.Shelf.Strconv.Lower
import Derived.Shelf.Strconv.ParseUint10
import Derived.Shelf.Strconv.ParseUint10Empty
import Derived.Shelf.Strconv.ParseUint10Any
import Derived.Shelf.Strconv.ParseInt10
import Derived.Shelf.Strconv.RangeError
import Derived.Shelf.Strconv.ToErrorRange
import Derived.Shelf.Strconv.ParseUintEmpty
import Derived.Shelf.Strconv.ParseUint10b64
import Derived.Shelf.Strconv.ParseUint10b32
import Derived.Shelf.Strconv.ParseUint10b16
import Derived.Shelf.Strconv.ParseUint10b8
import Derived.Shelf.Strconv.ParseUint10At
import Derived.Shelf.Strconv.ParseInt10At64
import Derived.Shelf.Strconv.ParseInt10At32
import Derived.Shelf.Strconv.ParseInt10At16
import Derived.Shelf.Strconv.ParseInt10At8
import Derived.Shelf.Strconv.ParseInt10All
import Derived.Shelf.Strconv.ParseIntPublic10
import Derived.Shelf.Strings.Search1
import Derived.Shelf.Strings.Search2
import Derived.Shelf.Strings.Cut
import Derived.Shelf.Strings.Shaped
import Derived.Shelf.Strings.Prefix
import Derived.Shelf.Unicode.Decode
import Derived.Shelf.Strings.Runes
import Derived.Shelf.Strings.AsciiSet
import Derived.Shelf.Unicode.DecodeSlow
import Derived.Shelf.Unicode.DecodeAny
import Derived.Shelf.Strings.BuilderCap
import Derived.Shelf.Slices.Turned
import Derived.Test.YtjplnhdplpiogaaGreatDoorProg
import Derived.Maps.RangeWalk
import Derived.Maps.StringElems
import Derived.Maps.OwnOps
import Derived.Laws.BitsLemmas
import Derived.Lib.Strings
import Derived.Lib.IndexBytes
import Derived.Laws.Rows
import Derived.Laws.Tables
import Derived.Laws.CopyOwn
import Derived.Lib.FrozenHead2
import Derived.Lib.OthersKept
import Derived.Lib.Builder
import Derived.Lib.AppendStr
import Derived.Lib.UnsafeStr
import Derived.Laws.Externs
import Derived.Laws.IdiomCopy
import Derived.Shelf.Strings.SlTrimAscii
import Derived.WalkMore
import Derived.ScopeJumps
import Derived.LaidEql
import Derived.Stop.Asserts
import Derived.RowKitTokens
section
namespace Go.Proofs.YtjplnhdplpiogaaGreatDoor.M
open Go.RowKit Go.Proofs.YtjplnhdplpiogaaGreatDoorW.PrintWords Go.Proofs.YtjplnhdplpiogaaGreatDoorW.PrintLast Go.Proofs.YtjplnhdplpiogaaGreatDoorW.PrintMore
attribute [local go_sem] max2_int min2_int max_two min_two max_three min_three max_four min_four
set_option linter.unusedVariables false
set_option linter.unusedSimpArgs false
def hornbooklaw05_items.l0 : Nat → List (S43) → List (S69) → Int → Option ((List (S69)))
 | 0, _, _, _ => none
 | k + 1, x0, x3, x4 => if x4 < (x0.length : Int) then (if 0 ≤ x4 then ((hornbooklaw05_ents.f k ((rd_T43 x0 x4).f4)).bind fun t262 => (if x3.length < 1466015503701 then (hornbooklaw05_items.l0 k x0 (x3 ++ [(⟨(rd_T43 x0 x4).f0, (rd_T43 x0 x4).f1, (rd_T43 x0 x4).f2, (⟨(rd_T43 x0 x4).f3.f0, (rd_T43 x0 x4).f3.f1, (rd_T43 x0 x4).f3.f2, (rd_T43 x0 x4).f3.f3⟩ : S40), t262⟩ : S69)]) (wrap64 (x4 + 1))) else (none))) else (none)) else (some x3)
def hornbooklaw05_items.f (k : Nat) (l0 : List (S43)) : Option ((List (S69))) := hornbooklaw05_items.l0 k l0 ([] : List (S69)) 0
def hornbooklaw05_items.T5 : Bool × List (List Nat × List Nat) := (true, [([], []), ([], []), ([], []), ([1, 2], [1, 2]), ([3], [3]), ([4], [4]), ([], []), ([], []), ([6, 7], [6, 7]), ([8], [8]), ([9], [9]), ([], []), ([], []), ([11, 12], [11, 12]), ([13], [13]), ([14], [14]), ([], []), ([], []), ([16, 17], [16, 17]), ([18], [18]), ([19], [19]), ([], []), ([], []), ([21, 22], [21, 22]), ([23], [23]), ([24], [24]), ([25], [25]), ([5, 10, 15, 20, 26], [5, 10, 15, 20, 26]), ([27], [27]), ([0, 28, 26], [0, 28]), ([29, 29, 0, 1, 2, 3, 4, 5, 6, 7, 8, 9, 10, 11, 12, 13, 14, 15, 16, 17, 18, 19, 20, 21, 22, 23, 24, 25, 26, 27, 28, 29], [0, 29])])
def hornbooklaw05_items.B5 : List Nat := [0, 0, 0, 6, 14, 30, 0, 0, 192, 448, 960, 0, 0, 6144, 14336, 30720, 0, 0, 196608, 458752, 983040, 0, 0, 6291456, 14680064, 31457280, 65011712, 134217726, 268435454, 536870911, 1073741823]
theorem hornbooklaw05_items.tab5 : rtab .any (opsOf Tryz.f13 5) = hornbooklaw05_items.T5 := by kernel_rfl
theorem hornbooklaw05_items.bits5 : waitsOk hornbooklaw05_items.T5.2 hornbooklaw05_items.B5 = true := by kernel_rfl
set_option maxHeartbeats 8000000 in
set_option maxRecDepth 100000 in
theorem hornbooklaw05_items.calls (k : Nat) (P0_ : Nat → Prop) (A0 : Option Addr) (c0 : Nat) (l0 : List (S43)) (r : List (S69)) (w : World) (hs0 : Kd.V k43 43 w w.heap.size (fun k_ => P0_ k_) (.slice A0 l0.length c0) l0) (h : hornbooklaw05_items.f k l0 = some r) :
  Calls Tryz.prog 13 #[.slice A0 l0.length c0] w fun e w' => ∃ v0_ : Value, e = .returned (v0_) ∧ Kd.N k69 69 w' w.heap.size (fun k_ => (P0_ k_ ∨ w.heap.size ≤ k_)) v0_ r ∧ Below w.heap.size w w' := by
 have hu40 := Tryz.underlying40
 have hu69 := Tryz.underlying69
 have HO0 := aM (show Kd.V k43 43 w w.heap.size (fun k_ => (P0_ k_ ∨ w.heap.size ≤ k_)) (.slice A0 l0.length c0) l0 from Kd.V_mono hs0 (fun k_ hk => .inl hk))
 have HB := aM (Below.refl w.heap.size w)
 have H : (hornbooklaw05_items.l0 k l0 ([] : List (S69)) 0) = some r := h
 clear h
 have H' := aM H
 clear H
 go_enter Tryz.func13, Tryz.ntmps13
 go_wp2
 go_loopg [3, 4] k (fun kq v3 v4 w' => ∃ (x3_1 : List (S69)) (x4_1 : Int), v4 = .int .i64 x4_1 ∧ Aside0 (hornbooklaw05_items.l0 kq l0 x3_1 x4_1 = some r) ∧ Aside0 (kq ≤ k) ∧ Aside0 (Kd.V k43 43 w' w.heap.size (fun k_ => (P0_ k_ ∨ w.heap.size ≤ k_) ∧ some k_ ≠ (v3 : Value).ownBlock) (.slice A0 l0.length c0) l0) ∧ Aside0 (Kd.N k69 69 w' w.heap.size (fun k_ => (P0_ k_ ∨ w.heap.size ≤ k_)) v3 x3_1) ∧ Aside0 (Below w.heap.size w w'))
 case atStart => exact ⟨(([] : List (S69))), (0), vQ, H', ⟨Nat.le_refl _⟩, ⟨by (with_reducible repeat (first | apply Kd.V_alloc | apply Kd.V_drewN | apply Kd.V_drew)); exact Kd.V_mono HO0.out (fun _ hk => ⟨hk, (by simp [Value.ownBlock])⟩)⟩, ⟨by first | exact Kd.R_nil _ _ _ _ _ | exact Kd.N_nil _ _ _ _ _ | exact Kd.V_nil _ _ _ _ _ | exact Kd.Q_nil _ _ _ _ _ | exact Kd.S_nil _ _ _ _ _⟩, ⟨bQ⟩⟩
 case round =>
  clear H'
  try clear c1
  obtain ⟨x3_1, x4_1, rfl, HA, HK1, HO_0, HO_3, HB⟩ := hrel
  cases gk with
  | zero => exact absurd HA.out (by simp [hornbooklaw05_items.l0])
  | succ k1 =>
   have H := HA.out
   clear HA
   simp only [hornbooklaw05_items.l0] at H
   refine iD H ?_ ?_<;>clear H<;>intro H c2b0
   rotate_left
   ·obtain rfl := Option.some.inj H
    go_wp2
    go_ret
    exact ⟨_, eQ, by (with_reducible repeat (first | apply Kd.N_alloc | apply Kd.N_drewN | apply Kd.N_drew)); exact HO_3.out, bQ⟩
   refine iD H ?_ ?_<;>clear H<;>intro H c3b0
   rotate_left
   ·exact absurd H (by simp)
   replace H := bS H
   obtain ⟨t262, A4, H⟩ := H
   try dsimp only at H
   refine iNc H ?_ ?_<;>clear H<;>intro H c5
   rotate_left
   ·exact absurd H (by simp)
   have LMc5 := aM c5
   clear c5
   obtain ⟨y265, hy265⟩ : ∃ y_ : List (S69), y_ = (x3_1 ++ [(⟨(rd_T43 l0 x4_1).f0, (rd_T43 l0 x4_1).f1, (rd_T43 l0 x4_1).f2, (⟨(rd_T43 l0 x4_1).f3.f0, (rd_T43 l0 x4_1).f3.f1, (rd_T43 l0 x4_1).f3.f2, (rd_T43 l0 x4_1).f3.f3⟩ : S40), t262⟩ : S69)]) := ⟨_, rfl⟩
   replace H : (hornbooklaw05_items.l0 k1 l0 y265 (wrap64 (x4_1 + 1))) = some r := by first | (rw [hy265]; with_reducible exact H) | (have H2_ := (Option.bind_some _ _).symm.trans H; rw [hy265]; with_reducible exact H2_) | (have H2_ := (Option.bind_some _ _).symm.trans H; with_reducible exact H2_) | with_reducible exact H | (rw [hy265]; exact H) | exact H
   have Ny265 := aM hy265
   clear hy265
   have H' := aM H
   clear H
   try go_wp2
   have n0_ := aM (Kd.V_drew HO_0.out)
   have n1_ := aM (Kd.N_drew HO_3.out)
   have n2_ := aM (below_drew1 HB.out)
   clear HO_0
   clear HO_3
   clear HB
   have HO_0 := n0_
   have HO_3 := n1_
   have HB := n2_
   clear n0_ n1_ n2_
   have p257 : 0 ≤ (x4_1 : Int) := of_decide_eq_true hQ
   have q257 : x4_1 < (l0.length : Int) := of_decide_eq_true hQ
   obtain ⟨ad257, A257_7, c257_7, e257, hx257_0, hx257_1, hx257_2, hx257_3, hx257_4, hx257_5, hx257_6, hx257_7, hl257_7, hi257_7⟩ := at_T43 (Kd.V_reads' HO_0.out).2.2 x4_1 p257 q257
   cases e257
   obtain ⟨ce257, hce257, hMe257, hcc257⟩ := Kd.V_get HO_0.out z43 x4_1 p257 (by first | exact q257 | exact of_decide_eq_true hQ | (have e_ := (Kd.V_reads' HO_0.out).1; omega))
   obtain ⟨ua257_7, uc257_7, rfl, ul257_7, ge257_7⟩ := k43_openF hMe257
   have hv257_7 := hcc257 7 _ rfl
   rw [add_field _ _ 7 (by omega)] at hv257_7
   replace hv257_7 := Option.some.inj (hv257_7.symm.trans hx257_7)
   injection hv257_7 with hva_ hvn_ hvc_
   rw [hva_] at ge257_7
   rw [hvc_] at ul257_7
   have HL257_7 := aM (show Kd.V k50 50 _ w.heap.size _ _ ((rd_T43 l0 x4_1).f4) from Kd.V_mk ul257_7 ge257_7)
   clear hva_ hvn_ hvc_ ge257_7 ul257_7
   clear hcc257 hce257
   have HR257_7 := aM hi257_7
   have HC257_7 := aM hl257_7
   clear hi257_7 hl257_7
   replace p257 := eq_true p257
   replace q257 := eq_true q257
   have p258 : 0 ≤ (x4_1 : Int) := of_decide_eq_true hQ
   have q258 : x4_1 < (l0.length : Int) := of_decide_eq_true hQ
   obtain ⟨ad258, A258_7, c258_7, e258, hx258_0, hx258_1, hx258_2, hx258_3, hx258_4, hx258_5, hx258_6, hx258_7, hl258_7, hi258_7⟩ := at_T43 (Kd.V_reads' HO_0.out).2.2 x4_1 p258 q258
   obtain rfl : ad257 = ad258 := (by injection e258)
   obtain ⟨ce258, hce258, hMe258, hcc258⟩ := Kd.V_get HO_0.out z43 x4_1 p258 (by first | exact q258 | exact of_decide_eq_true hQ | (have e_ := (Kd.V_reads' HO_0.out).1; omega))
   obtain ⟨ua258_7, uc258_7, rfl, ul258_7, ge258_7⟩ := k43_openF hMe258
   have hv258_7 := hcc258 7 _ rfl
   rw [add_field _ _ 7 (by omega)] at hv258_7
   replace hv258_7 := Option.some.inj (hv258_7.symm.trans hx258_7)
   injection hv258_7 with hva_ hvn_ hvc_
   rw [hva_] at ge258_7
   rw [hvc_] at ul258_7
   have HL258_7 := aM (show Kd.V k50 50 _ w.heap.size _ _ ((rd_T43 l0 x4_1).f4) from Kd.V_mk ul258_7 ge258_7)
   clear hva_ hvn_ hvc_ ge258_7 ul258_7
   clear hcc258 hce258
   have HR258_7 := aM hi258_7
   have HC258_7 := aM hl258_7
   clear hi258_7 hl258_7
   replace p258 := eq_true p258
   replace q258 := eq_true q258
   have ea_ := Option.some.inj (hx257_7.symm.trans hx258_7)
   injection ea_ with ea_ en_ ec_
   subst ea_
   subst ec_
   clear en_
   have p259 : 0 ≤ (x4_1 : Int) := of_decide_eq_true hQ
   have q259 : x4_1 < (l0.length : Int) := of_decide_eq_true hQ
   obtain ⟨ad259, A259_7, c259_7, e259, hx259_0, hx259_1, hx259_2, hx259_3, hx259_4, hx259_5, hx259_6, hx259_7, hl259_7, hi259_7⟩ := at_T43 (Kd.V_reads' HO_0.out).2.2 x4_1 p259 q259
   obtain rfl : ad257 = ad259 := (by injection e259)
   obtain ⟨ce259, hce259, hMe259, hcc259⟩ := Kd.V_get HO_0.out z43 x4_1 p259 (by first | exact q259 | exact of_decide_eq_true hQ | (have e_ := (Kd.V_reads' HO_0.out).1; omega))
   obtain ⟨ua259_7, uc259_7, rfl, ul259_7, ge259_7⟩ := k43_openF hMe259
   have hv259_7 := hcc259 7 _ rfl
   rw [add_field _ _ 7 (by omega)] at hv259_7
   replace hv259_7 := Option.some.inj (hv259_7.symm.trans hx259_7)
   injection hv259_7 with hva_ hvn_ hvc_
   rw [hva_] at ge259_7
   rw [hvc_] at ul259_7
   have HL259_7 := aM (show Kd.V k50 50 _ w.heap.size _ _ ((rd_T43 l0 x4_1).f4) from Kd.V_mk ul259_7 ge259_7)
   clear hva_ hvn_ hvc_ ge259_7 ul259_7
   clear hcc259 hce259
   have HR259_7 := aM hi259_7
   have HC259_7 := aM hl259_7
   clear hi259_7 hl259_7
   replace p259 := eq_true p259
   replace q259 := eq_true q259
   have ea_ := Option.some.inj (hx257_7.symm.trans hx259_7)
   injection ea_ with ea_ en_ ec_
   subst ea_
   subst ec_
   clear en_
   have p260 : 0 ≤ (x4_1 : Int) := of_decide_eq_true hQ
   have q260 : x4_1 < (l0.length : Int) := of_decide_eq_true hQ
   obtain ⟨ad260, A260_7, c260_7, e260, hx260_0, hx260_1, hx260_2, hx260_3, hx260_4, hx260_5, hx260_6, hx260_7, hl260_7, hi260_7⟩ := at_T43 (Kd.V_reads' HO_0.out).2.2 x4_1 p260 q260
   obtain rfl : ad257 = ad260 := (by injection e260)
   obtain ⟨ce260, hce260, hMe260, hcc260⟩ := Kd.V_get HO_0.out z43 x4_1 p260 (by first | exact q260 | exact of_decide_eq_true hQ | (have e_ := (Kd.V_reads' HO_0.out).1; omega))
   obtain ⟨ua260_7, uc260_7, rfl, ul260_7, ge260_7⟩ := k43_openF hMe260
   have hv260_7 := hcc260 7 _ rfl
   rw [add_field _ _ 7 (by omega)] at hv260_7
   replace hv260_7 := Option.some.inj (hv260_7.symm.trans hx260_7)
   injection hv260_7 with hva_ hvn_ hvc_
   rw [hva_] at ge260_7
   rw [hvc_] at ul260_7
   have HL260_7 := aM (show Kd.V k50 50 _ w.heap.size _ _ ((rd_T43 l0 x4_1).f4) from Kd.V_mk ul260_7 ge260_7)
   clear hva_ hvn_ hvc_ ge260_7 ul260_7
   clear hcc260 hce260
   have HR260_7 := aM hi260_7
   have HC260_7 := aM hl260_7
   clear hi260_7 hl260_7
   replace p260 := eq_true p260
   replace q260 := eq_true q260
   have ea_ := Option.some.inj (hx257_7.symm.trans hx260_7)
   injection ea_ with ea_ en_ ec_
   subst ea_
   subst ec_
   clear en_
   have p261 : 0 ≤ (x4_1 : Int) := of_decide_eq_true hQ
   have q261 : x4_1 < (l0.length : Int) := of_decide_eq_true hQ
   obtain ⟨ad261, A261_7, c261_7, e261, hx261_0, hx261_1, hx261_2, hx261_3, hx261_4, hx261_5, hx261_6, hx261_7, hl261_7, hi261_7⟩ := at_T43 (Kd.V_reads' HO_0.out).2.2 x4_1 p261 q261
   obtain rfl : ad257 = ad261 := (by injection e261)
   obtain ⟨ce261, hce261, hMe261, hcc261⟩ := Kd.V_get HO_0.out z43 x4_1 p261 (by first | exact q261 | exact of_decide_eq_true hQ | (have e_ := (Kd.V_reads' HO_0.out).1; omega))
   obtain ⟨ua261_7, uc261_7, rfl, ul261_7, ge261_7⟩ := k43_openF hMe261
   have hv261_7 := hcc261 7 _ rfl
   rw [add_field _ _ 7 (by omega)] at hv261_7
   replace hv261_7 := Option.some.inj (hv261_7.symm.trans hx261_7)
   injection hv261_7 with hva_ hvn_ hvc_
   rw [hva_] at ge261_7
   rw [hvc_] at ul261_7
   have HL261_7 := aM (show Kd.V k50 50 _ w.heap.size _ _ ((rd_T43 l0 x4_1).f4) from Kd.V_mk ul261_7 ge261_7)
   clear hva_ hvn_ hvc_ ge261_7 ul261_7
   clear hcc261 hce261
   have HR261_7 := aM hi261_7
   have HC261_7 := aM hl261_7
   clear hi261_7 hl261_7
   replace p261 := eq_true p261
   replace q261 := eq_true q261
   have ea_ := Option.some.inj (hx257_7.symm.trans hx261_7)
   injection ea_ with ea_ en_ ec_
   subst ea_
   subst ec_
   clear en_
   refine start_ (n := 31) (S := fun w' => w'.cell? (ad257.add ((x4_1).toNat * 8)) = some (.int .i64 ((rd_T43 l0 x4_1).f0)) ∧ w'.cell? ⟨(ad257.add ((x4_1).toNat * 8)).block, (ad257.add ((x4_1).toNat * 8)).off + 1, none⟩ = some (.int .i64 ((rd_T43 l0 x4_1).f1)) ∧ w'.cell? ⟨(ad257.add ((x4_1).toNat * 8)).block, (ad257.add ((x4_1).toNat * 8)).off + 2, none⟩ = some (.string ((rd_T43 l0 x4_1).f2)) ∧ w'.cell? ⟨(ad257.add ((x4_1).toNat * 8)).block, (ad257.add ((x4_1).toNat * 8)).off + 3, none⟩ = some (.int .i64 ((rd_T43 l0 x4_1).f3.f0)) ∧ w'.cell? ⟨(ad257.add ((x4_1).toNat * 8)).block, (ad257.add ((x4_1).toNat * 8)).off + 4, none⟩ = some (.int .i64 ((rd_T43 l0 x4_1).f3.f1)) ∧ w'.cell? ⟨(ad257.add ((x4_1).toNat * 8)).block, (ad257.add ((x4_1).toNat * 8)).off + 5, none⟩ = some (.int .i64 ((rd_T43 l0 x4_1).f3.f2)) ∧ w'.cell? ⟨(ad257.add ((x4_1).toNat * 8)).block, (ad257.add ((x4_1).toNat * 8)).off + 6, none⟩ = some (.string ((rd_T43 l0 x4_1).f3.f3)) ∧ w'.cell? ⟨(ad257.add ((x4_1).toNat * 8)).block, (ad257.add ((x4_1).toNat * 8)).off + 7, none⟩ = some (.slice A257_7 ((rd_T43 l0 x4_1).f4).length c257_7) ∧ w'.cell? (ad257.add ((x4_1).toNat * 8)) = some (.int .i64 ((rd_T43 l0 x4_1).f0)) ∧ w'.cell? ⟨(ad257.add ((x4_1).toNat * 8)).block, (ad257.add ((x4_1).toNat * 8)).off + 1, none⟩ = some (.int .i64 ((rd_T43 l0 x4_1).f1)) ∧ w'.cell? ⟨(ad257.add ((x4_1).toNat * 8)).block, (ad257.add ((x4_1).toNat * 8)).off + 2, none⟩ = some (.string ((rd_T43 l0 x4_1).f2)) ∧ w'.cell? ⟨(ad257.add ((x4_1).toNat * 8)).block, (ad257.add ((x4_1).toNat * 8)).off + 3, none⟩ = some (.int .i64 ((rd_T43 l0 x4_1).f3.f0)) ∧ w'.cell? ⟨(ad257.add ((x4_1).toNat * 8)).block, (ad257.add ((x4_1).toNat * 8)).off + 4, none⟩ = some (.int .i64 ((rd_T43 l0 x4_1).f3.f1)) ∧ w'.cell? ⟨(ad257.add ((x4_1).toNat * 8)).block, (ad257.add ((x4_1).toNat * 8)).off + 5, none⟩ = some (.int .i64 ((rd_T43 l0 x4_1).f3.f2)) ∧ w'.cell? ⟨(ad257.add ((x4_1).toNat * 8)).block, (ad257.add ((x4_1).toNat * 8)).off + 6, none⟩ = some (.string ((rd_T43 l0 x4_1).f3.f3)) ∧ w'.cell? ⟨(ad257.add ((x4_1).toNat * 8)).block, (ad257.add ((x4_1).toNat * 8)).off + 7, none⟩ = some (.slice A257_7 ((rd_T43 l0 x4_1).f4).length c257_7) ∧ w'.cell? (ad257.add ((x4_1).toNat * 8)) = some (.int .i64 ((rd_T43 l0 x4_1).f0)) ∧ w'.cell? ⟨(ad257.add ((x4_1).toNat * 8)).block, (ad257.add ((x4_1).toNat * 8)).off + 1, none⟩ = some (.int .i64 ((rd_T43 l0 x4_1).f1)) ∧ w'.cell? ⟨(ad257.add ((x4_1).toNat * 8)).block, (ad257.add ((x4_1).toNat * 8)).off + 2, none⟩ = some (.string ((rd_T43 l0 x4_1).f2)) ∧ w'.cell? ⟨(ad257.add ((x4_1).toNat * 8)).block, (ad257.add ((x4_1).toNat * 8)).off + 3, none⟩ = some (.int .i64 ((rd_T43 l0 x4_1).f3.f0)) ∧ w'.cell? ⟨(ad257.add ((x4_1).toNat * 8)).block, (ad257.add ((x4_1).toNat * 8)).off + 4, none⟩ = some (.int .i64 ((rd_T43 l0 x4_1).f3.f1)) ∧ w'.cell? ⟨(ad257.add ((x4_1).toNat * 8)).block, (ad257.add ((x4_1).toNat * 8)).off + 5, none⟩ = some (.int .i64 ((rd_T43 l0 x4_1).f3.f2)) ∧ w'.cell? ⟨(ad257.add ((x4_1).toNat * 8)).block, (ad257.add ((x4_1).toNat * 8)).off + 6, none⟩ = some (.string ((rd_T43 l0 x4_1).f3.f3)) ∧ w'.cell? ⟨(ad257.add ((x4_1).toNat * 8)).block, (ad257.add ((x4_1).toNat * 8)).off + 7, none⟩ = some (.slice A257_7 ((rd_T43 l0 x4_1).f4).length c257_7) ∧ w'.cell? (ad257.add ((x4_1).toNat * 8)) = some (.int .i64 ((rd_T43 l0 x4_1).f0)) ∧ w'.cell? ⟨(ad257.add ((x4_1).toNat * 8)).block, (ad257.add ((x4_1).toNat * 8)).off + 1, none⟩ = some (.int .i64 ((rd_T43 l0 x4_1).f1)) ∧ w'.cell? ⟨(ad257.add ((x4_1).toNat * 8)).block, (ad257.add ((x4_1).toNat * 8)).off + 2, none⟩ = some (.string ((rd_T43 l0 x4_1).f2)) ∧ w'.cell? ⟨(ad257.add ((x4_1).toNat * 8)).block, (ad257.add ((x4_1).toNat * 8)).off + 3, none⟩ = some (.int .i64 ((rd_T43 l0 x4_1).f3.f0)) ∧ w'.cell? ⟨(ad257.add ((x4_1).toNat * 8)).block, (ad257.add ((x4_1).toNat * 8)).off + 4, none⟩ = some (.int .i64 ((rd_T43 l0 x4_1).f3.f1)) ∧ w'.cell? ⟨(ad257.add ((x4_1).toNat * 8)).block, (ad257.add ((x4_1).toNat * 8)).off + 5, none⟩ = some (.int .i64 ((rd_T43 l0 x4_1).f3.f2)) ∧ w'.cell? ⟨(ad257.add ((x4_1).toNat * 8)).block, (ad257.add ((x4_1).toNat * 8)).off + 6, none⟩ = some (.string ((rd_T43 l0 x4_1).f3.f3)) ∧ w'.cell? ⟨(ad257.add ((x4_1).toNat * 8)).block, (ad257.add ((x4_1).toNat * 8)).off + 7, none⟩ = some (.slice A257_7 ((rd_T43 l0 x4_1).f4).length c257_7) ∧ w'.cell? (ad257.add ((x4_1).toNat * 8)) = some (.int .i64 ((rd_T43 l0 x4_1).f0)) ∧ w'.cell? ⟨(ad257.add ((x4_1).toNat * 8)).block, (ad257.add ((x4_1).toNat * 8)).off + 1, none⟩ = some (.int .i64 ((rd_T43 l0 x4_1).f1)) ∧ w'.cell? ⟨(ad257.add ((x4_1).toNat * 8)).block, (ad257.add ((x4_1).toNat * 8)).off + 2, none⟩ = some (.string ((rd_T43 l0 x4_1).f2)) ∧ w'.cell? ⟨(ad257.add ((x4_1).toNat * 8)).block, (ad257.add ((x4_1).toNat * 8)).off + 3, none⟩ = some (.int .i64 ((rd_T43 l0 x4_1).f3.f0)) ∧ w'.cell? ⟨(ad257.add ((x4_1).toNat * 8)).block, (ad257.add ((x4_1).toNat * 8)).off + 4, none⟩ = some (.int .i64 ((rd_T43 l0 x4_1).f3.f1)) ∧ w'.cell? ⟨(ad257.add ((x4_1).toNat * 8)).block, (ad257.add ((x4_1).toNat * 8)).off + 5, none⟩ = some (.int .i64 ((rd_T43 l0 x4_1).f3.f2)) ∧ w'.cell? ⟨(ad257.add ((x4_1).toNat * 8)).block, (ad257.add ((x4_1).toNat * 8)).off + 6, none⟩ = some (.string ((rd_T43 l0 x4_1).f3.f3)) ∧ w'.cell? ⟨(ad257.add ((x4_1).toNat * 8)).block, (ad257.add ((x4_1).toNat * 8)).off + 7, none⟩ = some (.slice A257_7 ((rd_T43 l0 x4_1).f4).length c257_7)) (ds := [28, 29]) #[false, false, false, false, false, false, false, false, false, false, false, false, false, false, false, false, false, false, false, false, false, false, false, false, false, false, false, false, false, false, false] (by kernel_rfl) rfl rfl ⟨hx257_0, hx257_1, hx257_2, hx257_3, hx257_4, hx257_5, hx257_6, hx257_7, hx258_0, hx258_1, hx258_2, hx258_3, hx258_4, hx258_5, hx258_6, hx258_7, hx259_0, hx259_1, hx259_2, hx259_3, hx259_4, hx259_5, hx259_6, hx259_7, hx260_0, hx260_1, hx260_2, hx260_3, hx260_4, hx260_5, hx260_6, hx260_7, hx261_0, hx261_1, hx261_2, hx261_3, hx261_4, hx261_5, hx261_6, hx261_7⟩ (fun hHeld => ?_); refine with_tabW hornbooklaw05_items.tab5 hornbooklaw05_items.bits5 (fun HT_ HW_ => ?_)
   generalize wr.drew = w6 at HO_0 HO_3 HB HL257_7 HL258_7 HL259_7 HL260_7 HL261_7 HR257_7 HR258_7 HR259_7 HR260_7 HR261_7 hx257_0 hx257_1 hx257_2 hx257_3 hx257_4 hx257_5 hx257_6 hx257_7 hx258_0 hx258_1 hx258_2 hx258_3 hx258_4 hx258_5 hx258_6 hx258_7 hx259_0 hx259_1 hx259_2 hx259_3 hx259_4 hx259_5 hx259_6 hx259_7 hx260_0 hx260_1 hx260_2 hx260_3 hx260_4 hx260_5 hx260_6 hx260_7 hx261_0 hx261_1 hx261_2 hx261_3 hx261_4 hx261_5 hx261_6 hx261_7 hHeld ⊢
   refine pure_ (i := 0) (N := some 11) (v := ?_) (a' := ?_) #[true, false, false, false, false, false, false, false, false, false, false, false, false, false, false, false, false, false, false, false, false, false, false, false, false, false, false, false, false, false, false] rfl rfl (any_of HT_.out (by kernel_rfl)) (fun _ _ _ h => h) (Or.inl ⟨by rfl, ?_⟩) ?_ ?_
   rotate_left
   ·intro w'
    go_simp
    with_reducible rfl
   rotate_left
   ·simp only [Act.put, List.setIfInBounds_toArray, List.set_cons_zero, List.set_cons_succ, i64_w, i32_w]
    rfl
   refine pure_ (i := 1) (N := some 12) (v := ?_) (a' := ?_) #[true, true, false, false, false, false, false, false, false, false, false, false, false, false, false, false, false, false, false, false, false, false, false, false, false, false, false, false, false, false, false] rfl rfl (any_of HT_.out (by kernel_rfl)) (fun _ _ _ h => h) (Or.inl ⟨by rfl, ?_⟩) ?_ ?_
   rotate_left
   ·intro w'
    go_simp
    with_reducible rfl
   rotate_left
   ·simp only [Act.put, List.setIfInBounds_toArray, List.set_cons_zero, List.set_cons_succ, i64_w, i32_w]
    rfl
   refine pure_ (i := 2) (N := some 13) (v := ?_) (a' := ?_) #[true, true, true, false, false, false, false, false, false, false, false, false, false, false, false, false, false, false, false, false, false, false, false, false, false, false, false, false, false, false, false] rfl rfl (any_of HT_.out (by kernel_rfl)) (fun _ _ _ h => h) (Or.inl ⟨by rfl, ?_⟩) ?_ ?_
   rotate_left
   ·intro w'
    go_simp
    with_reducible rfl
   rotate_left
   ·simp only [Act.put, List.setIfInBounds_toArray, List.set_cons_zero, List.set_cons_succ, i64_w, i32_w]
    rfl
   refine pure_ (i := 3) (N := some 14) (v := ?_) (a' := ?_) #[true, true, true, true, false, false, false, false, false, false, false, false, false, false, false, false, false, false, false, false, false, false, false, false, false, false, false, false, false, false, false] rfl rfl (any_of HT_.out (by kernel_rfl)) (fun _ _ _ h => h) (Or.inl ⟨by rfl, ?_⟩) ?_ ?_
   rotate_left
   ·intro w'
    go_simp
    with_reducible rfl
   rotate_left
   ·simp only [Act.put, List.setIfInBounds_toArray, List.set_cons_zero, List.set_cons_succ, i64_w, i32_w]
    rfl
   refine pure_ (i := 4) (N := some 15) (v := ?_) (a' := ?_) #[true, true, true, true, true, false, false, false, false, false, false, false, false, false, false, false, false, false, false, false, false, false, false, false, false, false, false, false, false, false, false] rfl rfl (any_of HT_.out (by kernel_rfl)) (fun _ _ _ h => h) (Or.inl ⟨by rfl, ?_⟩) ?_ ?_
   rotate_left
   ·intro w'
    go_simp
    with_reducible rfl
   rotate_left
   ·simp only [Act.put, List.setIfInBounds_toArray, List.set_cons_zero, List.set_cons_succ, i64_w, i32_w]
    rfl
   refine pure_ (i := 6) (N := some 17) (v := ?_) (a' := ?_) #[true, true, true, true, true, false, true, false, false, false, false, false, false, false, false, false, false, false, false, false, false, false, false, false, false, false, false, false, false, false, false] rfl rfl (any_of HT_.out (by kernel_rfl)) (fun _ _ _ h => h) (Or.inl ⟨by rfl, ?_⟩) ?_ ?_
   rotate_left
   ·intro w'
    go_simp
    with_reducible rfl
   rotate_left
   ·simp only [Act.put, List.setIfInBounds_toArray, List.set_cons_zero, List.set_cons_succ, i64_w, i32_w]
    rfl
   refine pure_ (i := 7) (N := some 18) (v := ?_) (a' := ?_) #[true, true, true, true, true, false, true, true, false, false, false, false, false, false, false, false, false, false, false, false, false, false, false, false, false, false, false, false, false, false, false] rfl rfl (any_of HT_.out (by kernel_rfl)) (fun _ _ _ h => h) (Or.inl ⟨by rfl, ?_⟩) ?_ ?_
   rotate_left
   ·intro w'
    go_simp
    with_reducible rfl
   rotate_left
   ·simp only [Act.put, List.setIfInBounds_toArray, List.set_cons_zero, List.set_cons_succ, i64_w, i32_w]
    rfl
   refine pure_ (i := 8) (N := some 19) (v := ?_) (a' := ?_) #[true, true, true, true, true, false, true, true, true, false, false, false, false, false, false, false, false, false, false, false, false, false, false, false, false, false, false, false, false, false, false] rfl rfl (any_of HT_.out (by kernel_rfl)) (fun _ _ _ h => h) (Or.inl ⟨by rfl, ?_⟩) ?_ ?_
   rotate_left
   ·intro w'
    go_simp
    with_reducible rfl
   rotate_left
   ·simp only [Act.put, List.setIfInBounds_toArray, List.set_cons_zero, List.set_cons_succ, i64_w, i32_w]
    rfl
   refine pure_ (i := 9) (N := some 20) (v := ?_) (a' := ?_) #[true, true, true, true, true, false, true, true, true, true, false, false, false, false, false, false, false, false, false, false, false, false, false, false, false, false, false, false, false, false, false] rfl rfl (any_of HT_.out (by kernel_rfl)) (fun _ _ _ h => h) (Or.inl ⟨by rfl, ?_⟩) ?_ ?_
   rotate_left
   ·intro w'
    go_simp
    with_reducible rfl
   rotate_left
   ·simp only [Act.put, List.setIfInBounds_toArray, List.set_cons_zero, List.set_cons_succ, i64_w, i32_w]
    rfl
   refine pure_ (i := 11) (N := some 22) (v := ?_) (a' := ?_) #[true, true, true, true, true, false, true, true, true, true, false, true, false, false, false, false, false, false, false, false, false, false, false, false, false, false, false, false, false, false, false] rfl rfl (any_of HT_.out (by kernel_rfl)) (fun _ _ _ h => h) (Or.inl ⟨by rfl, ?_⟩) ?_ ?_
   rotate_left
   ·intro w'
    go_simp
    with_reducible rfl
   rotate_left
   ·simp only [Act.put, List.setIfInBounds_toArray, List.set_cons_zero, List.set_cons_succ, i64_w, i32_w]
    rfl
   refine pure_ (i := 12) (N := some 23) (v := ?_) (a' := ?_) #[true, true, true, true, true, false, true, true, true, true, false, true, true, false, false, false, false, false, false, false, false, false, false, false, false, false, false, false, false, false, false] rfl rfl (any_of HT_.out (by kernel_rfl)) (fun _ _ _ h => h) (Or.inl ⟨by rfl, ?_⟩) ?_ ?_
   rotate_left
   ·intro w'
    go_simp
    with_reducible rfl
   rotate_left
   ·simp only [Act.put, List.setIfInBounds_toArray, List.set_cons_zero, List.set_cons_succ, i64_w, i32_w]
    rfl
   refine pure_ (i := 13) (N := some 24) (v := ?_) (a' := ?_) #[true, true, true, true, true, false, true, true, true, true, false, true, true, true, false, false, false, false, false, false, false, false, false, false, false, false, false, false, false, false, false] rfl rfl (any_of HT_.out (by kernel_rfl)) (fun _ _ _ h => h) (Or.inl ⟨by rfl, ?_⟩) ?_ ?_
   rotate_left
   ·intro w'
    go_simp
    with_reducible rfl
   rotate_left
   ·simp only [Act.put, List.setIfInBounds_toArray, List.set_cons_zero, List.set_cons_succ, i64_w, i32_w]
    rfl
   refine pure_ (i := 14) (N := some 25) (v := ?_) (a' := ?_) #[true, true, true, true, true, false, true, true, true, true, false, true, true, true, true, false, false, false, false, false, false, false, false, false, false, false, false, false, false, false, false] rfl rfl (any_of HT_.out (by kernel_rfl)) (fun _ _ _ h => h) (Or.inl ⟨by rfl, ?_⟩) ?_ ?_
   rotate_left
   ·intro w'
    go_simp
    with_reducible rfl
   rotate_left
   ·simp only [Act.put, List.setIfInBounds_toArray, List.set_cons_zero, List.set_cons_succ, i64_w, i32_w]
    rfl
   refine pure_ (i := 16) (N := some 27) (v := ?_) (a' := ?_) #[true, true, true, true, true, false, true, true, true, true, false, true, true, true, true, false, true, false, false, false, false, false, false, false, false, false, false, false, false, false, false] rfl rfl (any_of HT_.out (by kernel_rfl)) (fun _ _ _ h => h) (Or.inl ⟨by rfl, ?_⟩) ?_ ?_
   rotate_left
   ·intro w'
    go_simp
    with_reducible rfl
   rotate_left
   ·simp only [Act.put, List.setIfInBounds_toArray, List.set_cons_zero, List.set_cons_succ, i64_w, i32_w]
    rfl
   refine pure_ (i := 17) (N := some 28) (v := ?_) (a' := ?_) #[true, true, true, true, true, false, true, true, true, true, false, true, true, true, true, false, true, true, false, false, false, false, false, false, false, false, false, false, false, false, false] rfl rfl (any_of HT_.out (by kernel_rfl)) (fun _ _ _ h => h) (Or.inl ⟨by rfl, ?_⟩) ?_ ?_
   rotate_left
   ·intro w'
    go_simp
    with_reducible rfl
   rotate_left
   ·simp only [Act.put, List.setIfInBounds_toArray, List.set_cons_zero, List.set_cons_succ, i64_w, i32_w]
    rfl
   refine pure_ (i := 18) (N := some 29) (v := ?_) (a' := ?_) #[true, true, true, true, true, false, true, true, true, true, false, true, true, true, true, false, true, true, true, false, false, false, false, false, false, false, false, false, false, false, false] rfl rfl (any_of HT_.out (by kernel_rfl)) (fun _ _ _ h => h) (Or.inl ⟨by rfl, ?_⟩) ?_ ?_
   rotate_left
   ·intro w'
    go_simp
    with_reducible rfl
   rotate_left
   ·simp only [Act.put, List.setIfInBounds_toArray, List.set_cons_zero, List.set_cons_succ, i64_w, i32_w]
    rfl
   refine pure_ (i := 19) (N := some 30) (v := ?_) (a' := ?_) #[true, true, true, true, true, false, true, true, true, true, false, true, true, true, true, false, true, true, true, true, false, false, false, false, false, false, false, false, false, false, false] rfl rfl (any_of HT_.out (by kernel_rfl)) (fun _ _ _ h => h) (Or.inl ⟨by rfl, ?_⟩) ?_ ?_
   rotate_left
   ·intro w'
    go_simp
    with_reducible rfl
   rotate_left
   ·simp only [Act.put, List.setIfInBounds_toArray, List.set_cons_zero, List.set_cons_succ, i64_w, i32_w]
    rfl
   refine pure_ (i := 21) (N := some 32) (v := ?_) (a' := ?_) #[true, true, true, true, true, false, true, true, true, true, false, true, true, true, true, false, true, true, true, true, false, true, false, false, false, false, false, false, false, false, false] rfl rfl (any_of HT_.out (by kernel_rfl)) (fun _ _ _ h => h) (Or.inl ⟨by rfl, ?_⟩) ?_ ?_
   rotate_left
   ·intro w'
    go_simp
    with_reducible rfl
   rotate_left
   ·simp only [Act.put, List.setIfInBounds_toArray, List.set_cons_zero, List.set_cons_succ, i64_w, i32_w]
    rfl
   refine pure_ (i := 22) (N := some 33) (v := ?_) (a' := ?_) #[true, true, true, true, true, false, true, true, true, true, false, true, true, true, true, false, true, true, true, true, false, true, true, false, false, false, false, false, false, false, false] rfl rfl (any_of HT_.out (by kernel_rfl)) (fun _ _ _ h => h) (Or.inl ⟨by rfl, ?_⟩) ?_ ?_
   rotate_left
   ·intro w'
    go_simp
    with_reducible rfl
   rotate_left
   ·simp only [Act.put, List.setIfInBounds_toArray, List.set_cons_zero, List.set_cons_succ, i64_w, i32_w]
    rfl
   refine pure_ (i := 23) (N := some 34) (v := ?_) (a' := ?_) #[true, true, true, true, true, false, true, true, true, true, false, true, true, true, true, false, true, true, true, true, false, true, true, true, false, false, false, false, false, false, false] rfl rfl (any_of HT_.out (by kernel_rfl)) (fun _ _ _ h => h) (Or.inl ⟨by rfl, ?_⟩) ?_ ?_
   rotate_left
   ·intro w'
    go_simp
    with_reducible rfl
   rotate_left
   ·simp only [Act.put, List.setIfInBounds_toArray, List.set_cons_zero, List.set_cons_succ, i64_w, i32_w]
    rfl
   refine pure_ (i := 24) (N := some 35) (v := ?_) (a' := ?_) #[true, true, true, true, true, false, true, true, true, true, false, true, true, true, true, false, true, true, true, true, false, true, true, true, true, false, false, false, false, false, false] rfl rfl (any_of HT_.out (by kernel_rfl)) (fun _ _ _ h => h) (Or.inl ⟨by rfl, ?_⟩) ?_ ?_
   rotate_left
   ·intro w'
    go_simp
    with_reducible rfl
   rotate_left
   ·simp only [Act.put, List.setIfInBounds_toArray, List.set_cons_zero, List.set_cons_succ, i64_w, i32_w]
    rfl
   refine take_ (i := 5) (N := some 16) (v := ?_) (a' := ?_) #[true, true, true, true, true, true, true, true, true, true, false, true, true, true, true, false, true, true, true, true, false, true, true, true, true, false, false, false, false, false, false] rfl rfl (take_ofW HT_.out HW_.out (by kernel_rfl)) (fun _ _ _ h => h) (Or.inl ⟨by rfl, ?_⟩) hHeld ?_ ?_
   rotate_left
   ·rintro w' ⟨s0, s1, s2, s3, s4, s5, s6, s7, s8, s9, s10, s11, s12, s13, s14, s15, s16, s17, s18, s19, s20, s21, s22, s23, s24, s25, s26, s27, s28, s29, s30, s31, s32, s33, s34, s35, s36, s37, s38, s39⟩
    go_simp
    with_reducible rfl
   rotate_left
   ·simp only [Act.put, List.setIfInBounds_toArray, List.set_cons_zero, List.set_cons_succ, i64_w, i32_w]
    rfl
   refine take_ (i := 10) (N := some 21) (v := ?_) (a' := ?_) #[true, true, true, true, true, true, true, true, true, true, true, true, true, true, true, false, true, true, true, true, false, true, true, true, true, false, false, false, false, false, false] rfl rfl (take_ofW HT_.out HW_.out (by kernel_rfl)) (fun _ _ _ h => h) (Or.inl ⟨by rfl, ?_⟩) hHeld ?_ ?_
   rotate_left
   ·rintro w' ⟨s0, s1, s2, s3, s4, s5, s6, s7, s8, s9, s10, s11, s12, s13, s14, s15, s16, s17, s18, s19, s20, s21, s22, s23, s24, s25, s26, s27, s28, s29, s30, s31, s32, s33, s34, s35, s36, s37, s38, s39⟩
    go_simp
    with_reducible rfl
   rotate_left
   ·simp only [Act.put, List.setIfInBounds_toArray, List.set_cons_zero, List.set_cons_succ, i64_w, i32_w]
    rfl
   refine take_ (i := 15) (N := some 26) (v := ?_) (a' := ?_) #[true, true, true, true, true, true, true, true, true, true, true, true, true, true, true, true, true, true, true, true, false, true, true, true, true, false, false, false, false, false, false] rfl rfl (take_ofW HT_.out HW_.out (by kernel_rfl)) (fun _ _ _ h => h) (Or.inl ⟨by rfl, ?_⟩) hHeld ?_ ?_
   rotate_left
   ·rintro w' ⟨s0, s1, s2, s3, s4, s5, s6, s7, s8, s9, s10, s11, s12, s13, s14, s15, s16, s17, s18, s19, s20, s21, s22, s23, s24, s25, s26, s27, s28, s29, s30, s31, s32, s33, s34, s35, s36, s37, s38, s39⟩
    go_simp
    with_reducible rfl
   rotate_left
   ·simp only [Act.put, List.setIfInBounds_toArray, List.set_cons_zero, List.set_cons_succ, i64_w, i32_w]
    rfl
   refine take_ (i := 20) (N := some 31) (v := ?_) (a' := ?_) #[true, true, true, true, true, true, true, true, true, true, true, true, true, true, true, true, true, true, true, true, true, true, true, true, true, false, false, false, false, false, false] rfl rfl (take_ofW HT_.out HW_.out (by kernel_rfl)) (fun _ _ _ h => h) (Or.inl ⟨by rfl, ?_⟩) hHeld ?_ ?_
   rotate_left
   ·rintro w' ⟨s0, s1, s2, s3, s4, s5, s6, s7, s8, s9, s10, s11, s12, s13, s14, s15, s16, s17, s18, s19, s20, s21, s22, s23, s24, s25, s26, s27, s28, s29, s30, s31, s32, s33, s34, s35, s36, s37, s38, s39⟩
    go_simp
    with_reducible rfl
   rotate_left
   ·simp only [Act.put, List.setIfInBounds_toArray, List.set_cons_zero, List.set_cons_succ, i64_w, i32_w]
    rfl
   refine take_ (i := 25) (N := some 36) (v := ?_) (a' := ?_) #[true, true, true, true, true, true, true, true, true, true, true, true, true, true, true, true, true, true, true, true, true, true, true, true, true, true, false, false, false, false, false] rfl rfl (take_ofW HT_.out HW_.out (by kernel_rfl)) (fun _ _ _ h => h) (Or.inl ⟨by rfl, ?_⟩) hHeld ?_ ?_
   rotate_left
   ·rintro w' ⟨s0, s1, s2, s3, s4, s5, s6, s7, s8, s9, s10, s11, s12, s13, s14, s15, s16, s17, s18, s19, s20, s21, s22, s23, s24, s25, s26, s27, s28, s29, s30, s31, s32, s33, s34, s35, s36, s37, s38, s39⟩
    go_simp
    with_reducible rfl
   rotate_left
   ·simp only [Act.put, List.setIfInBounds_toArray, List.set_cons_zero, List.set_cons_succ, i64_w, i32_w]
    rfl
   refine one_ (i := 26) (N := some 37) #[true, true, true, true, true, true, true, true, true, true, true, true, true, true, true, true, true, true, true, true, true, true, true, true, true, true, true, false, false, false, false] rfl rfl (one_of HT_.out (by kernel_rfl)) (by decide) (fun K hK => ?_)
   refine goes_ Tryz.func24 (by kernel_rfl) rfl #[.slice A257_7 ((rd_T43 l0 x4_1).f4).length c257_7] (by rfl) rfl rfl (by (try simp only [List.map_toArray, List.map_cons, List.map_nil]); first | done | rfl | (simp only [List.length_drop, List.length_take]; rfl)) ?_
   with_reducible refine (hornbooklaw05_ents.calls k1 (fun k_ => ((P0_ k_ ∨ w.heap.size ≤ k_) ∧ some k_ ≠ (u3 : Value).ownBlock)) _ _ ((rd_T43 l0 x4_1).f4) t262 _ ?side1 A4.out).mono ?_
   (case side1 => exact HL261_7.out)
   rintro e w7 ⟨v263, rfl, ho0, hb⟩
   have HS0_ := (hb.cell (World.block_lt_of_cell? _ _ (hHeld.1))).trans (hHeld.1)
   have HS1_ := (hb.cell (World.block_lt_of_cell? _ _ (hHeld.2.1))).trans (hHeld.2.1)
   have HS2_ := (hb.cell (World.block_lt_of_cell? _ _ (hHeld.2.2.1))).trans (hHeld.2.2.1)
   have HS3_ := (hb.cell (World.block_lt_of_cell? _ _ (hHeld.2.2.2.1))).trans (hHeld.2.2.2.1)
   have HS4_ := (hb.cell (World.block_lt_of_cell? _ _ (hHeld.2.2.2.2.1))).trans (hHeld.2.2.2.2.1)
   have HS5_ := (hb.cell (World.block_lt_of_cell? _ _ (hHeld.2.2.2.2.2.1))).trans (hHeld.2.2.2.2.2.1)
   have HS6_ := (hb.cell (World.block_lt_of_cell? _ _ (hHeld.2.2.2.2.2.2.1))).trans (hHeld.2.2.2.2.2.2.1)
   have HS7_ := (hb.cell (World.block_lt_of_cell? _ _ (hHeld.2.2.2.2.2.2.2.1))).trans (hHeld.2.2.2.2.2.2.2.1)
   have HS8_ := (hb.cell (World.block_lt_of_cell? _ _ (hHeld.2.2.2.2.2.2.2.2.1))).trans (hHeld.2.2.2.2.2.2.2.2.1)
   have HS9_ := (hb.cell (World.block_lt_of_cell? _ _ (hHeld.2.2.2.2.2.2.2.2.2.1))).trans (hHeld.2.2.2.2.2.2.2.2.2.1)
   have HS10_ := (hb.cell (World.block_lt_of_cell? _ _ (hHeld.2.2.2.2.2.2.2.2.2.2.1))).trans (hHeld.2.2.2.2.2.2.2.2.2.2.1)
   have HS11_ := (hb.cell (World.block_lt_of_cell? _ _ (hHeld.2.2.2.2.2.2.2.2.2.2.2.1))).trans (hHeld.2.2.2.2.2.2.2.2.2.2.2.1)
   have HS12_ := (hb.cell (World.block_lt_of_cell? _ _ (hHeld.2.2.2.2.2.2.2.2.2.2.2.2.1))).trans (hHeld.2.2.2.2.2.2.2.2.2.2.2.2.1)
   have HS13_ := (hb.cell (World.block_lt_of_cell? _ _ (hHeld.2.2.2.2.2.2.2.2.2.2.2.2.2.1))).trans (hHeld.2.2.2.2.2.2.2.2.2.2.2.2.2.1)
   have HS14_ := (hb.cell (World.block_lt_of_cell? _ _ (hHeld.2.2.2.2.2.2.2.2.2.2.2.2.2.2.1))).trans (hHeld.2.2.2.2.2.2.2.2.2.2.2.2.2.2.1)
   have HS15_ := (hb.cell (World.block_lt_of_cell? _ _ (hHeld.2.2.2.2.2.2.2.2.2.2.2.2.2.2.2.1))).trans (hHeld.2.2.2.2.2.2.2.2.2.2.2.2.2.2.2.1)
   have HS16_ := (hb.cell (World.block_lt_of_cell? _ _ (hHeld.2.2.2.2.2.2.2.2.2.2.2.2.2.2.2.2.1))).trans (hHeld.2.2.2.2.2.2.2.2.2.2.2.2.2.2.2.2.1)
   have HS17_ := (hb.cell (World.block_lt_of_cell? _ _ (hHeld.2.2.2.2.2.2.2.2.2.2.2.2.2.2.2.2.2.1))).trans (hHeld.2.2.2.2.2.2.2.2.2.2.2.2.2.2.2.2.2.1)
   have HS18_ := (hb.cell (World.block_lt_of_cell? _ _ (hHeld.2.2.2.2.2.2.2.2.2.2.2.2.2.2.2.2.2.2.1))).trans (hHeld.2.2.2.2.2.2.2.2.2.2.2.2.2.2.2.2.2.2.1)
   have HS19_ := (hb.cell (World.block_lt_of_cell? _ _ (hHeld.2.2.2.2.2.2.2.2.2.2.2.2.2.2.2.2.2.2.2.1))).trans (hHeld.2.2.2.2.2.2.2.2.2.2.2.2.2.2.2.2.2.2.2.1)
   have HS20_ := (hb.cell (World.block_lt_of_cell? _ _ (hHeld.2.2.2.2.2.2.2.2.2.2.2.2.2.2.2.2.2.2.2.2.1))).trans (hHeld.2.2.2.2.2.2.2.2.2.2.2.2.2.2.2.2.2.2.2.2.1)
   have HS21_ := (hb.cell (World.block_lt_of_cell? _ _ (hHeld.2.2.2.2.2.2.2.2.2.2.2.2.2.2.2.2.2.2.2.2.2.1))).trans (hHeld.2.2.2.2.2.2.2.2.2.2.2.2.2.2.2.2.2.2.2.2.2.1)
   have HS22_ := (hb.cell (World.block_lt_of_cell? _ _ (hHeld.2.2.2.2.2.2.2.2.2.2.2.2.2.2.2.2.2.2.2.2.2.2.1))).trans (hHeld.2.2.2.2.2.2.2.2.2.2.2.2.2.2.2.2.2.2.2.2.2.2.1)
   have HS23_ := (hb.cell (World.block_lt_of_cell? _ _ (hHeld.2.2.2.2.2.2.2.2.2.2.2.2.2.2.2.2.2.2.2.2.2.2.2.1))).trans (hHeld.2.2.2.2.2.2.2.2.2.2.2.2.2.2.2.2.2.2.2.2.2.2.2.1)
   have HS24_ := (hb.cell (World.block_lt_of_cell? _ _ (hHeld.2.2.2.2.2.2.2.2.2.2.2.2.2.2.2.2.2.2.2.2.2.2.2.2.1))).trans (hHeld.2.2.2.2.2.2.2.2.2.2.2.2.2.2.2.2.2.2.2.2.2.2.2.2.1)
   have HS25_ := (hb.cell (World.block_lt_of_cell? _ _ (hHeld.2.2.2.2.2.2.2.2.2.2.2.2.2.2.2.2.2.2.2.2.2.2.2.2.2.1))).trans (hHeld.2.2.2.2.2.2.2.2.2.2.2.2.2.2.2.2.2.2.2.2.2.2.2.2.2.1)
   have HS26_ := (hb.cell (World.block_lt_of_cell? _ _ (hHeld.2.2.2.2.2.2.2.2.2.2.2.2.2.2.2.2.2.2.2.2.2.2.2.2.2.2.1))).trans (hHeld.2.2.2.2.2.2.2.2.2.2.2.2.2.2.2.2.2.2.2.2.2.2.2.2.2.2.1)
   have HS27_ := (hb.cell (World.block_lt_of_cell? _ _ (hHeld.2.2.2.2.2.2.2.2.2.2.2.2.2.2.2.2.2.2.2.2.2.2.2.2.2.2.2.1))).trans (hHeld.2.2.2.2.2.2.2.2.2.2.2.2.2.2.2.2.2.2.2.2.2.2.2.2.2.2.2.1)
   have HS28_ := (hb.cell (World.block_lt_of_cell? _ _ (hHeld.2.2.2.2.2.2.2.2.2.2.2.2.2.2.2.2.2.2.2.2.2.2.2.2.2.2.2.2.1))).trans (hHeld.2.2.2.2.2.2.2.2.2.2.2.2.2.2.2.2.2.2.2.2.2.2.2.2.2.2.2.2.1)
   have HS29_ := (hb.cell (World.block_lt_of_cell? _ _ (hHeld.2.2.2.2.2.2.2.2.2.2.2.2.2.2.2.2.2.2.2.2.2.2.2.2.2.2.2.2.2.1))).trans (hHeld.2.2.2.2.2.2.2.2.2.2.2.2.2.2.2.2.2.2.2.2.2.2.2.2.2.2.2.2.2.1)
   have HS30_ := (hb.cell (World.block_lt_of_cell? _ _ (hHeld.2.2.2.2.2.2.2.2.2.2.2.2.2.2.2.2.2.2.2.2.2.2.2.2.2.2.2.2.2.2.1))).trans (hHeld.2.2.2.2.2.2.2.2.2.2.2.2.2.2.2.2.2.2.2.2.2.2.2.2.2.2.2.2.2.2.1)
   have HS31_ := (hb.cell (World.block_lt_of_cell? _ _ (hHeld.2.2.2.2.2.2.2.2.2.2.2.2.2.2.2.2.2.2.2.2.2.2.2.2.2.2.2.2.2.2.2.1))).trans (hHeld.2.2.2.2.2.2.2.2.2.2.2.2.2.2.2.2.2.2.2.2.2.2.2.2.2.2.2.2.2.2.2.1)
   have HS32_ := (hb.cell (World.block_lt_of_cell? _ _ (hHeld.2.2.2.2.2.2.2.2.2.2.2.2.2.2.2.2.2.2.2.2.2.2.2.2.2.2.2.2.2.2.2.2.1))).trans (hHeld.2.2.2.2.2.2.2.2.2.2.2.2.2.2.2.2.2.2.2.2.2.2.2.2.2.2.2.2.2.2.2.2.1)
   have HS33_ := (hb.cell (World.block_lt_of_cell? _ _ (hHeld.2.2.2.2.2.2.2.2.2.2.2.2.2.2.2.2.2.2.2.2.2.2.2.2.2.2.2.2.2.2.2.2.2.1))).trans (hHeld.2.2.2.2.2.2.2.2.2.2.2.2.2.2.2.2.2.2.2.2.2.2.2.2.2.2.2.2.2.2.2.2.2.1)
   have HS34_ := (hb.cell (World.block_lt_of_cell? _ _ (hHeld.2.2.2.2.2.2.2.2.2.2.2.2.2.2.2.2.2.2.2.2.2.2.2.2.2.2.2.2.2.2.2.2.2.2.1))).trans (hHeld.2.2.2.2.2.2.2.2.2.2.2.2.2.2.2.2.2.2.2.2.2.2.2.2.2.2.2.2.2.2.2.2.2.2.1)
   have HS35_ := (hb.cell (World.block_lt_of_cell? _ _ (hHeld.2.2.2.2.2.2.2.2.2.2.2.2.2.2.2.2.2.2.2.2.2.2.2.2.2.2.2.2.2.2.2.2.2.2.2.1))).trans (hHeld.2.2.2.2.2.2.2.2.2.2.2.2.2.2.2.2.2.2.2.2.2.2.2.2.2.2.2.2.2.2.2.2.2.2.2.1)
   have HS36_ := (hb.cell (World.block_lt_of_cell? _ _ (hHeld.2.2.2.2.2.2.2.2.2.2.2.2.2.2.2.2.2.2.2.2.2.2.2.2.2.2.2.2.2.2.2.2.2.2.2.2.1))).trans (hHeld.2.2.2.2.2.2.2.2.2.2.2.2.2.2.2.2.2.2.2.2.2.2.2.2.2.2.2.2.2.2.2.2.2.2.2.2.1)
   have HS37_ := (hb.cell (World.block_lt_of_cell? _ _ (hHeld.2.2.2.2.2.2.2.2.2.2.2.2.2.2.2.2.2.2.2.2.2.2.2.2.2.2.2.2.2.2.2.2.2.2.2.2.2.1))).trans (hHeld.2.2.2.2.2.2.2.2.2.2.2.2.2.2.2.2.2.2.2.2.2.2.2.2.2.2.2.2.2.2.2.2.2.2.2.2.2.1)
   have HS38_ := (hb.cell (World.block_lt_of_cell? _ _ (hHeld.2.2.2.2.2.2.2.2.2.2.2.2.2.2.2.2.2.2.2.2.2.2.2.2.2.2.2.2.2.2.2.2.2.2.2.2.2.2.1))).trans (hHeld.2.2.2.2.2.2.2.2.2.2.2.2.2.2.2.2.2.2.2.2.2.2.2.2.2.2.2.2.2.2.2.2.2.2.2.2.2.2.1)
   have HS39_ := (hb.cell (World.block_lt_of_cell? _ _ (hHeld.2.2.2.2.2.2.2.2.2.2.2.2.2.2.2.2.2.2.2.2.2.2.2.2.2.2.2.2.2.2.2.2.2.2.2.2.2.2.2))).trans (hHeld.2.2.2.2.2.2.2.2.2.2.2.2.2.2.2.2.2.2.2.2.2.2.2.2.2.2.2.2.2.2.2.2.2.2.2.2.2.2.2)
   refine ⟨_, rfl, ?_⟩
   have n0_ := aM (Kd.V_elder' (by (with_reducible repeat (first | apply Kd.V_alloc | apply Kd.V_drewN | apply Kd.V_drew)); exact HO_0.out) (Kd.N_base ho0) hb)
   have n1_ := aM (Kd.N_elder' (by (with_reducible repeat (first | apply Kd.N_alloc | apply Kd.N_drewN | apply Kd.N_drew)); exact HO_3.out) (Kd.N_base ho0) hb)
   have n2_ := aM (Kd.V_elder' (by (with_reducible repeat (first | apply Kd.V_alloc | apply Kd.V_drewN | apply Kd.V_drew)); exact HL257_7.out) (Kd.N_base ho0) hb)
   have n3_ := aM (Kd.V_elder' (by (with_reducible repeat (first | apply Kd.V_alloc | apply Kd.V_drewN | apply Kd.V_drew)); exact HL258_7.out) (Kd.N_base ho0) hb)
   have n4_ := aM (Kd.V_elder' (by (with_reducible repeat (first | apply Kd.V_alloc | apply Kd.V_drewN | apply Kd.V_drew)); exact HL259_7.out) (Kd.N_base ho0) hb)
   have n5_ := aM (Kd.V_elder' (by (with_reducible repeat (first | apply Kd.V_alloc | apply Kd.V_drewN | apply Kd.V_drew)); exact HL260_7.out) (Kd.N_base ho0) hb)
   have n6_ := aM (Kd.V_elder' (by (with_reducible repeat (first | apply Kd.V_alloc | apply Kd.V_drewN | apply Kd.V_drew)); exact HL261_7.out) (Kd.N_base ho0) hb)
   have n7_ := aM (Kd.N_lower (Kd.N_mono (ok' := fun k_ => (P0_ k_ ∨ w.heap.size ≤ k_) ∧ some k_ ≠ (u3 : Value).ownBlock) ho0 (fun k_ hk_ => ⟨Or.elim hk_ (fun hs_ => hs_.1) (fun hn_ => (.inr (Nat.le_trans (below_size bQ) hn_))), Or.elim hk_ (fun hs_ => hs_.2) (fun hn_ => (Kd.fresh' (Kd.N_lt (by (with_reducible repeat (first | apply Kd.N_alloc | apply Kd.N_drewN | apply Kd.N_drew)); exact HO_3.out)) k_ hn_))⟩)) (below_size bQ))
   have n8_ := aM (Kd.C_below (by repeat (first | (with_reducible exact HR257_7.out) | (with_reducible first|refine Kd.C_alloc ?_ _|refine Kd.C_drewN ?_ _|refine Kd.C_drew ?_) | exact HR257_7.out)) hb)
   have n9_ := aM (Kd.C_below (by repeat (first | (with_reducible exact HR258_7.out) | (with_reducible first|refine Kd.C_alloc ?_ _|refine Kd.C_drewN ?_ _|refine Kd.C_drew ?_) | exact HR258_7.out)) hb)
   have n10_ := aM (Kd.C_below (by repeat (first | (with_reducible exact HR259_7.out) | (with_reducible first|refine Kd.C_alloc ?_ _|refine Kd.C_drewN ?_ _|refine Kd.C_drew ?_) | exact HR259_7.out)) hb)
   have n11_ := aM (Kd.C_below (by repeat (first | (with_reducible exact HR260_7.out) | (with_reducible first|refine Kd.C_alloc ?_ _|refine Kd.C_drewN ?_ _|refine Kd.C_drew ?_) | exact HR260_7.out)) hb)
   have n12_ := aM (Kd.C_below (by repeat (first | (with_reducible exact HR261_7.out) | (with_reducible first|refine Kd.C_alloc ?_ _|refine Kd.C_drewN ?_ _|refine Kd.C_drew ?_) | exact HR261_7.out)) hb)
   have n13_ := sB hb
   clear HO_0
   clear HO_3
   clear HL257_7
   clear HL258_7
   clear HL259_7
   clear HL260_7
   clear HL261_7
   clear HR257_7
   clear HR258_7
   clear HR259_7
   clear HR260_7
   clear HR261_7
   clear HB
   have HO_0 := n0_
   have HO_3 := n1_
   have HL257_7 := n2_
   have HL258_7 := n3_
   have HL259_7 := n4_
   have HL260_7 := n5_
   have HL261_7 := n6_
   have HO264 := n7_
   have HR257_7 := n8_
   have HR258_7 := n9_
   have HR259_7 := n10_
   have HR260_7 := n11_
   have HR261_7 := n12_
   have HB := n13_
   clear n0_ n1_ n2_ n3_ n4_ n5_ n6_ n7_ n8_ n9_ n10_ n11_ n12_ n13_
   (try clear hb)
   (try clear hb2)
   (try clear hk)
   (try clear hi)
   (try clear ho0)
   obtain ⟨Ao8, co8, eo8⟩ := Kd.N_slice HO264.out
   (first | subst eo8 | (injection eo8 with f1_ f2_ f3_; have f4_ := f1_.symm; have f5_ := f3_.symm; clear f1_ f2_ f3_; subst f4_; subst f5_))
   refine hK.out _ _ ⟨HS0_, HS1_, HS2_, HS3_, HS4_, HS5_, HS6_, HS7_, HS8_, HS9_, HS10_, HS11_, HS12_, HS13_, HS14_, HS15_, HS16_, HS17_, HS18_, HS19_, HS20_, HS21_, HS22_, HS23_, HS24_, HS25_, HS26_, HS27_, HS28_, HS29_, HS30_, HS31_, HS32_, HS33_, HS34_, HS35_, HS36_, HS37_, HS38_, HS39_⟩ (fun hHeld => ?_)
   clear hK K
   refine norm_ (a' := ?_) ?_ ?_
   rotate_left
   ·show Act.put _ (some 37) _ = _
    simp only [Act.put, List.setIfInBounds_toArray, List.set_cons_zero, List.set_cons_succ, i64_w, i32_w]
    rfl
   refine pure_ (i := 27) (N := some 38) (v := ?_) (a' := ?_) #[true, true, true, true, true, true, true, true, true, true, true, true, true, true, true, true, true, true, true, true, true, true, true, true, true, true, true, true, false, false, false] rfl rfl (any_of HT_.out (by kernel_rfl)) (fun _ _ _ h => h) (Or.inl ⟨by rfl, ?_⟩) ?_ ?_
   rotate_left
   ·intro w'
    go_simp
    with_reducible rfl
   rotate_left
   ·simp only [Act.put, List.setIfInBounds_toArray, List.set_cons_zero, List.set_cons_succ, i64_w, i32_w]
    rfl
   refine last_ (i := 28) (N := some 39) #[true, true, true, true, true, true, true, true, true, true, true, true, true, true, true, true, true, true, true, true, true, true, true, true, true, true, true, true, true, false, false] rfl rfl (one_of HT_.out (by kernel_rfl)) (by decide) (fun K hK => ?_)
   refine value_ (w1 := ?_) (v := ?_) (by rfl) rfl ?_ ?_
   rotate_left 2
   ·go_simp
    constructor
    ·rfl
    ·rfl
   refine hK.out _ _ ?_
   clear hK K
   refine norm_ (a' := ?_) ?_ ?_
   rotate_left
   ·show Act.put _ (some 39) _ = _
    simp only [Act.put, List.setIfInBounds_toArray, List.set_cons_zero, List.set_cons_succ, i64_w, i32_w]
    rfl
   refine last_ (i := 29) (N := some 40) #[true, true, true, true, true, true, true, true, true, true, true, true, true, true, true, true, true, true, true, true, true, true, true, true, true, true, true, true, true, true, false] rfl rfl (one_of HT_.out (by kernel_rfl)) (by decide) (fun K hK => ?_)
   refine Kd.N_append_step k69 (w0 := w) w.heap.size (by rfl) (.tmp 11) (.tmp 39) 29 69 (.agg #[(.int .i64 0), (.int .i64 0), (.string ⟨#[]⟩), (.int .i64 0), (.int .i64 0), (.int .i64 0), (.string ⟨#[]⟩), (.slice none 0 0)]) 96 rfl Tryz.underlying29 info69 rfl (by decide) (by omega) u3 x3_1 (⟨(rd_T43 l0 x4_1).f0, (rd_T43 l0 x4_1).f1, (rd_T43 l0 x4_1).f2, (⟨(rd_T43 l0 x4_1).f3.f0, (rd_T43 l0 x4_1).f3.f1, (rd_T43 l0 x4_1).f3.f2, (rd_T43 l0 x4_1).f3.f3⟩ : S40), t262⟩ : S69) [.int .i64 ((rd_T43 l0 x4_1).f0), .int .i64 ((rd_T43 l0 x4_1).f1), .string ((rd_T43 l0 x4_1).f2), .int .i64 ((rd_T43 l0 x4_1).f3.f0), .int .i64 ((rd_T43 l0 x4_1).f3.f1), .int .i64 ((rd_T43 l0 x4_1).f3.f2), .string ((rd_T43 l0 x4_1).f3.f3), .slice Ao8 t262.length co8] (fun k_ => (P0_ k_ ∨ w.heap.size ≤ k_)) (fun k_ => ((fun k_ => (P0_ k_ ∨ w.heap.size ≤ k_))) k_ ∧ some k_ ≠ (u3 : Value).ownBlock) rfl rfl ?aP (fun _ hk => hk) ?aF ?aO ?aB ?aS ?aL ?_
   (case aP => exact (k69_mkF _ _ (⟨(rd_T43 l0 x4_1).f0, (rd_T43 l0 x4_1).f1, (rd_T43 l0 x4_1).f2, (⟨(rd_T43 l0 x4_1).f3.f0, (rd_T43 l0 x4_1).f3.f1, (rd_T43 l0 x4_1).f3.f2, (rd_T43 l0 x4_1).f3.f3⟩ : S40), t262⟩ : S69) (Kd.N_reads' (Kd.N_mono (ok' := (fun k_ => ((fun k_ => (P0_ k_ ∨ w.heap.size ≤ k_))) k_ ∧ some k_ ≠ (u3 : Value).ownBlock)) (HO264.out) (fun k_ hk => ⟨hk.1, hk.2⟩))).2.1 (Kd.N_F (Kd.N_mono (ok' := (fun k_ => ((fun k_ => (P0_ k_ ∨ w.heap.size ≤ k_))) k_ ∧ some k_ ≠ (u3 : Value).ownBlock)) (HO264.out) (fun k_ hk => ⟨hk.1, hk.2⟩)))))
   (case aB => exact bQ)
   (case aF => exact (fun k_ hk => (.inr (Nat.le_trans (below_size bQ) hk))))
   (case aO => exact (by (with_reducible repeat (first | apply Kd.N_alloc | apply Kd.N_drewN | apply Kd.N_drew)); exact Kd.N_mono HO_3.out (fun _ hk => hk.1)))
   (case aS => exact (below_size bQ))
   (case aL => have := LMc5.out; omega)
   intro v266 w9 ho hb hg hat
   rw [← Ny265.out] at ho
   have n0_ := aM (Kd.V_afterv (ok := (fun k_ => (P0_ k_ ∨ w.heap.size ≤ k_) ∧ some k_ ≠ (.slice Ao8 t262.length co8 : Value).ownBlock)) (by (with_reducible repeat (first | apply Kd.V_alloc | apply Kd.V_drewN | apply Kd.V_drew)); exact Kd.V_mono HO_0.out (fun _ hk => ⟨⟨hk.1.1, hk.2⟩, hk.1.2⟩)) hg hat)
   have n1_ := aM (Kd.V_afterv (ok := (fun k_ => (P0_ k_ ∨ w.heap.size ≤ k_) ∧ some k_ ≠ (.slice Ao8 t262.length co8 : Value).ownBlock)) (by (with_reducible repeat (first | apply Kd.V_alloc | apply Kd.V_drewN | apply Kd.V_drew)); exact Kd.V_mono HL257_7.out (fun _ hk => ⟨⟨hk.1.1, hk.2⟩, hk.1.2⟩)) hg hat)
   have n2_ := aM (Kd.V_afterv (ok := (fun k_ => (P0_ k_ ∨ w.heap.size ≤ k_) ∧ some k_ ≠ (.slice Ao8 t262.length co8 : Value).ownBlock)) (by (with_reducible repeat (first | apply Kd.V_alloc | apply Kd.V_drewN | apply Kd.V_drew)); exact Kd.V_mono HL258_7.out (fun _ hk => ⟨⟨hk.1.1, hk.2⟩, hk.1.2⟩)) hg hat)
   have n3_ := aM (Kd.V_afterv (ok := (fun k_ => (P0_ k_ ∨ w.heap.size ≤ k_) ∧ some k_ ≠ (.slice Ao8 t262.length co8 : Value).ownBlock)) (by (with_reducible repeat (first | apply Kd.V_alloc | apply Kd.V_drewN | apply Kd.V_drew)); exact Kd.V_mono HL259_7.out (fun _ hk => ⟨⟨hk.1.1, hk.2⟩, hk.1.2⟩)) hg hat)
   have n4_ := aM (Kd.V_afterv (ok := (fun k_ => (P0_ k_ ∨ w.heap.size ≤ k_) ∧ some k_ ≠ (.slice Ao8 t262.length co8 : Value).ownBlock)) (by (with_reducible repeat (first | apply Kd.V_alloc | apply Kd.V_drewN | apply Kd.V_drew)); exact Kd.V_mono HL260_7.out (fun _ hk => ⟨⟨hk.1.1, hk.2⟩, hk.1.2⟩)) hg hat)
   have n5_ := aM (Kd.V_afterv (ok := (fun k_ => (P0_ k_ ∨ w.heap.size ≤ k_) ∧ some k_ ≠ (.slice Ao8 t262.length co8 : Value).ownBlock)) (by (with_reducible repeat (first | apply Kd.V_alloc | apply Kd.V_drewN | apply Kd.V_drew)); exact Kd.V_mono HL261_7.out (fun _ hk => ⟨⟨hk.1.1, hk.2⟩, hk.1.2⟩)) hg hat)
   have n6_ := aM (hb)
   have n7_ := aM (ho)
   clear HO_0
   clear HL257_7
   clear HL258_7
   clear HL259_7
   clear HL260_7
   clear HL261_7
   clear HB
   clear HO_3
   clear HO264
   have HO_0 := n0_
   have HL257_7 := n1_
   have HL258_7 := n2_
   have HL259_7 := n3_
   have HL260_7 := n4_
   have HL261_7 := n5_
   have HB := n6_
   have HO267 := n7_
   clear n0_ n1_ n2_ n3_ n4_ n5_ n6_ n7_
   clear ho hb hg hat
   refine hK.out _ _ ?_
   clear hK K
   refine norm_ (a' := ?_) ?_ ?_
   rotate_left
   ·show Act.put _ (some 40) _ = _
    simp only [Act.put, List.setIfInBounds_toArray, List.set_cons_zero, List.set_cons_succ, i64_w, i32_w]
    rfl
   refine pure_ (i := 30) (N := some 3) (v := ?_) (a' := ?_) #[true, true, true, true, true, true, true, true, true, true, true, true, true, true, true, true, true, true, true, true, true, true, true, true, true, true, true, true, true, true, true] rfl rfl (any_of HT_.out (by kernel_rfl)) (fun _ _ _ h => h) (Or.inl ⟨by rfl, ?_⟩) ?_ ?_
   rotate_left
   ·intro w'
    go_simp
    with_reducible rfl
   rotate_left
   ·simp only [Act.put, List.setIfInBounds_toArray, List.set_cons_zero, List.set_cons_succ, i64_w, i32_w]
    rfl
   refine done_ (done_of HT_.out (by kernel_rfl)) ?_
   try go_wp2
   go_roundg k1
   case measure => have := HK1.out; omega
   case rel => exact ⟨(y265), (wrap64 (x4_1 + 1)), vQ, H', ⟨by have := HK1.out; omega⟩, ⟨by (with_reducible repeat (first | apply Kd.V_alloc | apply Kd.V_drewN | apply Kd.V_drew)); exact Kd.V_mono HO_0.out (fun _ hk => ⟨hk.1.1, hk.2⟩)⟩, ⟨by (with_reducible repeat (first | apply Kd.N_alloc | apply Kd.N_drewN | apply Kd.N_drew)); exact HO267.out⟩, ⟨bQ⟩⟩
def lex_place.f (a0 : ByteArray) (a1 : Int) : Option (Int) := some (mx 0 (mn a1 (a0.size : Int)))
set_option maxHeartbeats 8000000 in
set_option maxRecDepth 100000 in
theorem lex_place.calls (a0 : ByteArray) (a1 : Int) (r : Int) (w : World) (h : lex_place.f a0 a1 = some r) :
  Calls Tryz.prog 59 #[.string a0, .int .i64 a1] w fun e w' => e = .returned (.int .i64 r) ∧ Below w.heap.size w w' := by
 have HB := aM (Below.refl w.heap.size w)
 have H : (some (mx 0 (mn a1 (a0.size : Int)))) = some r := h
 clear h
 obtain ⟨ji3, hji3⟩ : ∃ j_ : Int, (mn a1 (a0.size : Int)) = j_ := ⟨_, rfl⟩
 replace H : (some (mx 0 (ji3))) = some r := by first | (rw [hji3] at H; exact H) | (simp only [hji3] at H ⊢; exact H)
 have hji3_ : (if (a0.size : Int) < a1 then (a0.size : Int) else a1) = ji3 := hji3
 obtain ⟨ji4, hji4⟩ : ∃ j_ : Int, (mx 0 (ji3)) = j_ := ⟨_, rfl⟩
 replace H : (some ji4) = some r := by first | (rw [hji4] at H; exact H) | (simp only [hji4] at H ⊢; exact H)
 have hji4_ : (if 0 < (ji3) then (ji3) else 0) = ji4 := hji4
 obtain rfl := Option.some.inj H
 go_enter Tryz.func59, Tryz.ntmps59
 go_wp2
 go_ret
 exact ⟨by first | rfl | (simp [errW_none, errW_some] <;> rfl) | (simp only [← hji3, ← hji4]; first | rfl | (simp [errW_none, errW_some] <;> rfl)) | (simp [*, errW_none, errW_some] <;> rfl), bQ⟩
end Go.Proofs.YtjplnhdplpiogaaGreatDoor.M
end
section
namespace Go.Proofs
open Go.Shelf
def Tryz.lays169_ren : Go.Shelf.Ren := ⟨fun | 169 => 67 | n => n, fun | 70 => 107 | 9 => 9 | 0 => 0 | 72 => 109 | 37 => 52 | 127 => 139 | 3 => 3 | 5 => 5 | n => n, fun | n => n⟩
theorem Tryz.lays169 : Go.Proofs.Lays.n169 Tryz.prog Tryz.lays169_ren := {
 mixed := by kernel_rfl
 f169 := Tryz.func67.trans (congrArg some (by kernel_rfl))
 t0 := Tryz.underlying0
 a0 := Tryz.isAgg0
 z0 := Tryz.sizeOf0
 v0 := Tryz.zeroValue0
 t3 := Tryz.underlying3
 a3 := Tryz.isAgg3
 z3 := Tryz.sizeOf3
 v3 := Tryz.zeroValue3
 t9 := Tryz.underlying9
 a9 := Tryz.isAgg9
 z9 := Tryz.sizeOf9
 v9 := Tryz.zeroValue9
 t37 := Tryz.underlying52
 a37 := Tryz.isAgg52
 z37 := Tryz.sizeOf52
 v37 := Tryz.zeroValue52
 t70 := Tryz.underlying107
 a70 := Tryz.isAgg107
 z70 := Tryz.sizeOf107
 v70 := Tryz.zeroValue107
 t72 := Tryz.underlying109
 a72 := Tryz.isAgg109
 z72 := Tryz.sizeOf109
 v72 := Tryz.zeroValue109
 t127 := Tryz.underlying139
 a127 := Tryz.isAgg139
 z127 := Tryz.sizeOf139
 v127 := Tryz.zeroValue139 }
theorem Tryz.Builder_Extra_169 : Builder.Extra Tryz.prog Tryz.lays169_ren := {
 sizeBuilder := by kernel_rfl
 liesBuilder := by kernel_rfl
 t5 := Tryz.underlying5
 a5 := Tryz.isAgg5
 z5 := Tryz.sizeOf5
 v5 := Tryz.zeroValue5
 infoByte := by kernel_rfl
 cellsByte := by kernel_rfl
 sizeByte := by kernel_rfl
 neB5 := by decide }
def Tryz.lays160_ren : Go.Shelf.Ren := ⟨fun | 160 => 117 | 232 => 135 | 231 => 134 | 227 => 136 | 234 => 138 | 233 => 137 | 236 => 140 | 235 => 139 | 228 => 152 | 271 => 155 | 151 => 154 | 197 => 153 | 120 => 165 | 152 => 164 | 260 => 163 | 137 => 60 | 119 => 167 | 224 => 132 | 225 => 131 | 217 => 90 | 266 => 112 | n => n, fun | 9 => 9 | 4 => 4 | 3 => 3 | 5 => 5 | 117 => 173 | 116 => 172 | 0 => 0 | 124 => 176 | 21 => 21 | 105 => 200 | 46 => 96 | 119 => 211 | 139 => 214 | 138 => 213 | n => n, fun | 3 => 3 | 4 => 4 | n => n⟩
theorem Tryz.lays160 : Go.Proofs.Lays.n160 Tryz.prog Tryz.lays160_ren := {
 mixed := by kernel_rfl
 f119 := Tryz.func167.trans (congrArg some (by kernel_rfl))
 f120 := Tryz.func165.trans (congrArg some (by kernel_rfl))
 f137 := Tryz.func60.trans (congrArg some (by kernel_rfl))
 f151 := Tryz.func154.trans (congrArg some (by kernel_rfl))
 f152 := Tryz.func164.trans (congrArg some (by kernel_rfl))
 f160 := Tryz.func117.trans (congrArg some (by kernel_rfl))
 f197 := Tryz.func153.trans (congrArg some (by kernel_rfl))
 f217 := Tryz.func90.trans (congrArg some (by kernel_rfl))
 f224 := Tryz.func132.trans (congrArg some (by kernel_rfl))
 f225 := Tryz.func131.trans (congrArg some (by kernel_rfl))
 f227 := Tryz.func136.trans (congrArg some (by kernel_rfl))
 f228 := Tryz.func152.trans (congrArg some (by kernel_rfl))
 f231 := Tryz.func134.trans (congrArg some (by kernel_rfl))
 f232 := Tryz.func135.trans (congrArg some (by kernel_rfl))
 f233 := Tryz.func137.trans (congrArg some (by kernel_rfl))
 f234 := Tryz.func138.trans (congrArg some (by kernel_rfl))
 f235 := Tryz.func139.trans (congrArg some (by kernel_rfl))
 f236 := Tryz.func140.trans (congrArg some (by kernel_rfl))
 f260 := Tryz.func163.trans (congrArg some (by kernel_rfl))
 f266 := Tryz.func112.trans (congrArg some (by kernel_rfl))
 f271 := Tryz.func155.trans (congrArg some (by kernel_rfl))
 t0 := Tryz.underlying0
 a0 := Tryz.isAgg0
 z0 := Tryz.sizeOf0
 v0 := Tryz.zeroValue0
 t3 := Tryz.underlying3
 a3 := Tryz.isAgg3
 z3 := Tryz.sizeOf3
 v3 := Tryz.zeroValue3
 t4 := Tryz.underlying4
 a4 := Tryz.isAgg4
 z4 := Tryz.sizeOf4
 v4 := Tryz.zeroValue4
 t5 := Tryz.underlying5
 a5 := Tryz.isAgg5
 z5 := Tryz.sizeOf5
 v5 := Tryz.zeroValue5
 t9 := Tryz.underlying9
 a9 := Tryz.isAgg9
 z9 := Tryz.sizeOf9
 v9 := Tryz.zeroValue9
 t21 := Tryz.underlying21
 a21 := Tryz.isAgg21
 z21 := Tryz.sizeOf21
 v21 := Tryz.zeroValue21
 t46 := Tryz.underlying96
 a46 := Tryz.isAgg96
 z46 := Tryz.sizeOf96
 v46 := Tryz.zeroValue96
 t105 := Tryz.underlying200
 a105 := Tryz.isAgg200
 z105 := Tryz.sizeOf200
 v105 := Tryz.zeroValue200
 t116 := Tryz.underlying172
 a116 := Tryz.isAgg172
 z116 := Tryz.sizeOf172
 t117 := Tryz.underlying173
 a117 := Tryz.isAgg173
 z117 := Tryz.sizeOf173
 v117 := Tryz.zeroValue173
 t119 := Tryz.underlying211
 a119 := Tryz.isAgg211
 z119 := Tryz.sizeOf211
 t124 := Tryz.underlying176
 a124 := Tryz.isAgg176
 z124 := Tryz.sizeOf176
 v124 := Tryz.zeroValue176
 t138 := Tryz.underlying213
 a138 := Tryz.isAgg213
 z138 := Tryz.sizeOf213
 v138 := Tryz.zeroValue213
 t139 := Tryz.underlying214
 a139 := Tryz.isAgg214
 z139 := Tryz.sizeOf214
 v139 := Tryz.zeroValue214
 g3 := by kernel_rfl
 g4 := by kernel_rfl }
def Tryz.lays137_ren : Go.Shelf.Ren := ⟨fun | 137 => 60 | 217 => 90 | 266 => 112 | n => n, fun | 9 => 9 | 5 => 5 | 3 => 3 | n => n, fun | n => n⟩
theorem Tryz.lays137 : Go.Proofs.Lays.n137 Tryz.prog Tryz.lays137_ren := {
 mixed := by kernel_rfl
 f137 := Tryz.func60.trans (congrArg some (by kernel_rfl))
 f217 := Tryz.func90.trans (congrArg some (by kernel_rfl))
 f266 := Tryz.func112.trans (congrArg some (by kernel_rfl))
 t3 := Tryz.underlying3
 a3 := Tryz.isAgg3
 z3 := Tryz.sizeOf3
 v3 := Tryz.zeroValue3
 t5 := Tryz.underlying5
 a5 := Tryz.isAgg5
 z5 := Tryz.sizeOf5
 v5 := Tryz.zeroValue5
 t9 := Tryz.underlying9
 a9 := Tryz.isAgg9
 z9 := Tryz.sizeOf9
 v9 := Tryz.zeroValue9 }
open Go.RowKit in
/-- strings.IndexByte: "IndexByte returns the index of the first instance of c in s, or -1 if c is not present in s.": IT RETURNS 'Lib.indexByte s c'; the world is as it was. (LAID: no walk: one application.) -/
theorem Tryz.strings_IndexByte (s : ByteArray) (c : Int) (w : World) :
  Calls Tryz.prog 60 #[.string s, .int .u8 c] w fun e w' => e = .returned (.int .i64 (Lib.indexByte s.data.toList c.toNat.toUInt8)) ∧ w' = w := Any.strings_IndexByte Tryz.lays137 s c w
open Go.RowKit in
/-- (*strings.Builder).String: "String returns the accumulated string.": WHATEVER THE BUILDER HOLDS; THE FORM '_k': OVER 'Lib.IsBuilderF' (a builder that 'String()' may have read), AND WITH THE FRAME THAT REACHES ABOVE THE BUILDER: 'Lib.OthersKept': every block that is not b and is no row of uint8's stands as it stood: the iterator of a range among them. (LAID: no walk: one application.) -/
theorem Tryz.Builder_String_any_k (B b : Nat) (l : List UInt8) (w : World) (h : Lib.IsBuilderF 109 5 B b (Lib.byteCells l) w) (hBw : B ≤ w.heap.size) :
  Calls Tryz.prog 67 #[.pointer (some ⟨b, 0, none⟩)] w fun e w' => e = .returned (.string ⟨l.toArray⟩) ∧ (Lib.IsBuilderF 109 5 B b (Lib.byteCells l) w' ∧ Below B w w' ∧ Lib.OthersKept 5 (some b) w w') := Any.Builder_String_any_k Tryz.lays169 Tryz.Builder_Extra_169 B b l w h hBw
def Tryz.laysC174_ren : Go.Shelf.Ren := ⟨fun | 174 => 97 | 247 => 118 | 245 => 119 | 287 => 141 | 279 => 142 | 280 => 143 | 281 => 144 | 282 => 145 | 321 => 156 | 322 => 157 | 316 => 158 | 171 => 160 | 205 => 159 | 243 => 166 | 246 => 168 | 283 => 169 | 284 => 170 | 285 => 171 | 286 => 172 | 129 => 174 | 317 => 173 | 318 => 175 | 319 => 176 | 320 => 177 | 337 => 178 | 338 => 179 | n => n, fun | 9 => 9 | 3 => 3 | 2 => 2 | 75 => 112 | 85 => 142 | 4 => 4 | 167 => 177 | 5 => 5 | 53 => 178 | 175 => 179 | 46 => 96 | 168 => 181 | 37 => 52 | 0 => 0 | 210 => 205 | 21 => 21 | 127 => 139 | 145 => 210 | 143 => 208 | 171 => 217 | 173 => 220 | 212 => 223 | 51 => 196 | 20 => 20 | 213 => 224 | 232 => 227 | 233 => 228 | 80 => 114 | n => n, fun | 15 => 2 | 16 => 0 | 17 => 5 | 18 => 6 | 19 => 7 | n => n⟩
theorem Tryz.laysC174 : Go.Proofs.LaysC.n174 Tryz.prog Tryz.laysC174_ren := {
 mixed := by kernel_rfl
 f129 := Tryz.func174.trans (congrArg some (by kernel_rfl))
 f171 := Tryz.func160.trans (congrArg some (by kernel_rfl))
 f174 := Tryz.func97.trans (congrArg some (by kernel_rfl))
 f205 := Tryz.func159.trans (congrArg some (by kernel_rfl))
 f243 := Tryz.func166.trans (congrArg some (by kernel_rfl))
 f245 := Tryz.func119.trans (congrArg some (by kernel_rfl))
 f246 := Tryz.func168.trans (congrArg some (by kernel_rfl))
 f247 := Tryz.func118.trans (congrArg some (by kernel_rfl))
 f279 := Tryz.func142.trans (congrArg some (by kernel_rfl))
 f280 := Tryz.func143.trans (congrArg some (by kernel_rfl))
 f281 := Tryz.func144.trans (congrArg some (by kernel_rfl))
 f282 := Tryz.func145.trans (congrArg some (by kernel_rfl))
 f283 := Tryz.func169.trans (congrArg some (by kernel_rfl))
 f284 := Tryz.func170.trans (congrArg some (by kernel_rfl))
 f285 := Tryz.func171.trans (congrArg some (by kernel_rfl))
 f286 := Tryz.func172.trans (congrArg some (by kernel_rfl))
 f287 := Tryz.func141.trans (congrArg some (by kernel_rfl))
 f316 := Tryz.func158.trans (congrArg some (by kernel_rfl))
 f317 := Tryz.func173.trans (congrArg some (by kernel_rfl))
 f318 := Tryz.func175.trans (congrArg some (by kernel_rfl))
 f319 := Tryz.func176.trans (congrArg some (by kernel_rfl))
 f320 := Tryz.func177.trans (congrArg some (by kernel_rfl))
 f321 := Tryz.func156.trans (congrArg some (by kernel_rfl))
 f322 := Tryz.func157.trans (congrArg some (by kernel_rfl))
 f337 := Tryz.func178.trans (congrArg some (by kernel_rfl))
 f338 := Tryz.func179.trans (congrArg some (by kernel_rfl))
 t0 := Tryz.underlying0
 a0 := Tryz.isAgg0
 z0 := Tryz.sizeOf0
 v0 := Tryz.zeroValue0
 t2 := Tryz.underlying2
 a2 := Tryz.isAgg2
 z2 := Tryz.sizeOf2
 v2 := Tryz.zeroValue2
 t3 := Tryz.underlying3
 a3 := Tryz.isAgg3
 z3 := Tryz.sizeOf3
 v3 := Tryz.zeroValue3
 t4 := Tryz.underlying4
 a4 := Tryz.isAgg4
 z4 := Tryz.sizeOf4
 v4 := Tryz.zeroValue4
 t5 := Tryz.underlying5
 a5 := Tryz.isAgg5
 z5 := Tryz.sizeOf5
 v5 := Tryz.zeroValue5
 t9 := Tryz.underlying9
 a9 := Tryz.isAgg9
 z9 := Tryz.sizeOf9
 v9 := Tryz.zeroValue9
 t20 := Tryz.underlying20
 a20 := Tryz.isAgg20
 z20 := Tryz.sizeOf20
 v20 := Tryz.zeroValue20
 t21 := Tryz.underlying21
 a21 := Tryz.isAgg21
 z21 := Tryz.sizeOf21
 v21 := Tryz.zeroValue21
 t37 := Tryz.underlying52
 a37 := Tryz.isAgg52
 z37 := Tryz.sizeOf52
 v37 := Tryz.zeroValue52
 t46 := Tryz.underlying96
 a46 := Tryz.isAgg96
 z46 := Tryz.sizeOf96
 v46 := Tryz.zeroValue96
 t51 := Tryz.underlying196
 a51 := Tryz.isAgg196
 z51 := Tryz.sizeOf196
 v51 := Tryz.zeroValue196
 t53 := Tryz.underlying178
 a53 := Tryz.isAgg178
 z53 := Tryz.sizeOf178
 v53 := Tryz.zeroValue178
 t75 := Tryz.underlying112
 a75 := Tryz.isAgg112
 z75 := Tryz.sizeOf112
 v75 := Tryz.zeroValue112
 t85 := Tryz.underlying142
 a85 := Tryz.isAgg142
 z85 := Tryz.sizeOf142
 v85 := Tryz.zeroValue142
 t127 := Tryz.underlying139
 a127 := Tryz.isAgg139
 z127 := Tryz.sizeOf139
 v127 := Tryz.zeroValue139
 t143 := Tryz.underlying208
 a143 := Tryz.isAgg208
 z143 := Tryz.sizeOf208
 v143 := Tryz.zeroValue208
 t145 := Tryz.underlying210
 a145 := Tryz.isAgg210
 z145 := Tryz.sizeOf210
 v145 := Tryz.zeroValue210
 t167 := Tryz.underlying177
 a167 := Tryz.isAgg177
 z167 := Tryz.sizeOf177
 v167 := Tryz.zeroValue177
 t168 := Tryz.underlying181
 a168 := Tryz.isAgg181
 z168 := Tryz.sizeOf181
 v168 := Tryz.zeroValue181
 t171 := Tryz.underlying217
 a171 := Tryz.isAgg217
 z171 := Tryz.sizeOf217
 v171 := Tryz.zeroValue217
 t173 := Tryz.underlying220
 a173 := Tryz.isAgg220
 z173 := Tryz.sizeOf220
 v173 := Tryz.zeroValue220
 t175 := Tryz.underlying179
 a175 := Tryz.isAgg179
 z175 := Tryz.sizeOf179
 v175 := Tryz.zeroValue179
 t210 := Tryz.underlying205
 a210 := Tryz.isAgg205
 z210 := Tryz.sizeOf205
 v210 := Tryz.zeroValue205
 t212 := Tryz.underlying223
 a212 := Tryz.isAgg223
 z212 := Tryz.sizeOf223
 v212 := Tryz.zeroValue223
 t213 := Tryz.underlying224
 a213 := Tryz.isAgg224
 z213 := Tryz.sizeOf224
 t232 := Tryz.underlying227
 a232 := Tryz.isAgg227
 z232 := Tryz.sizeOf227
 v232 := Tryz.zeroValue227
 t233 := Tryz.underlying228
 a233 := Tryz.isAgg228
 z233 := Tryz.sizeOf228
 v233 := Tryz.zeroValue228
 g15 := by kernel_rfl
 g16 := by kernel_rfl
 g17 := by kernel_rfl
 g18 := by kernel_rfl
 g19 := by kernel_rfl
 t80 := Tryz.underlying114
 a80 := Tryz.isAgg114
 z80 := Tryz.sizeOf114
 v80 := Tryz.zeroValue114
 i0 := by kernel_rfl
 i2 := by kernel_rfl
 i3 := by kernel_rfl
 i4 := by kernel_rfl
 i5 := by kernel_rfl
 i9 := by kernel_rfl
 i20 := by kernel_rfl
 i21 := by kernel_rfl
 i37 := by kernel_rfl
 i46 := by kernel_rfl
 i51 := by kernel_rfl
 i53 := by kernel_rfl
 i75 := by kernel_rfl
 i80 := by kernel_rfl
 i85 := by kernel_rfl
 i127 := by kernel_rfl
 i143 := by kernel_rfl
 i145 := by kernel_rfl
 i167 := by kernel_rfl
 i168 := by kernel_rfl
 i171 := by kernel_rfl
 i173 := by kernel_rfl
 i175 := by kernel_rfl
 i210 := by kernel_rfl
 i212 := by kernel_rfl
 i232 := by kernel_rfl
 i233 := by kernel_rfl
 m15 := by kernel_rfl
 m16 := by kernel_rfl
 m17 := by kernel_rfl
 m18 := by kernel_rfl
 m19 := by kernel_rfl
 c0 := by kernel_rfl
 c2 := by kernel_rfl
 c3 := by kernel_rfl
 c4 := by kernel_rfl
 c5 := by kernel_rfl
 c9 := by kernel_rfl
 c20 := by kernel_rfl
 c21 := by kernel_rfl
 c37 := by kernel_rfl
 c46 := by kernel_rfl
 c51 := by kernel_rfl
 c53 := by kernel_rfl
 c75 := by kernel_rfl
 c80 := by kernel_rfl
 c85 := by kernel_rfl
 c127 := by kernel_rfl
 c143 := by kernel_rfl
 c145 := by kernel_rfl
 c167 := by kernel_rfl
 c168 := by kernel_rfl
 c171 := by kernel_rfl
 c173 := by kernel_rfl
 c175 := by kernel_rfl
 c210 := by kernel_rfl
 c212 := by kernel_rfl
 c213 := by kernel_rfl
 c232 := by kernel_rfl
 c233 := by kernel_rfl }
open Go.RowKit in
/-- strconv.ParseInt(s, 10, 32), AT EVERY STRING THAT SPELLS AN int32 ('Lib.parseIntB 32 s.data.toList = .ok v'): v, AND NO ERROR. (LAID: no walk: one application.) -/
theorem Tryz.strconv_ParseInt_10_at32_ok (s : ByteArray) (hmax : s.size ≤ 9223372036854775806) (v : Int) (h : Lib.parseIntB 32 s.data.toList = .ok v) (w : World) :
  Calls Tryz.prog 97 #[.string s, .int .i64 10, .int .i64 32] w fun e w' => e = .returned (.tuple #[.int .i64 v, .nilIface]) ∧ (w' = w ∨ ∃ t, w' = Lib.bytesWorld w 5 t) := Any.strconv_ParseInt_10_at32_ok Tryz.laysC174 s hmax v h w
open Go.RowKit in
/-- strconv.ParseInt(s, 10, 32), AT EVERY NUMERAL THAT NO int32 HOLDS: THE GREATEST OR THE LEAST int32, BY THE SIGN ('Lib.intSat 32'), AND AN ERROR THAT IS NOT nil: a *NumError in a new block N: {Func: "ParseInt", Num: s's bytes, Err: what the variable ErrRange holds}. Of what was there nothing has turned. (LAID: no walk: one application.) -/
theorem Tryz.strconv_ParseInt_10_at32_range (s : ByteArray) (hlim : s.size ≤ 281474976710656) (h : Lib.parseIntB 32 s.data.toList = .range) (ev : Value) (w : World) (hv : w.cell? ⟨0, 0, none⟩ = some ev) (hev : ev = .nilIface ∨ ∃ te pe, ev = .iface te pe) :
  Calls Tryz.prog 97 #[.string s, .int .i64 10, .int .i64 32] w fun e w' => ∃ N, e = .returned (.tuple #[.int .i64 (Lib.intSat 32 s.data.toList), .iface 181 (.pointer (some ⟨N, 0, none⟩))]) ∧ w.heap.size ≤ N ∧ w'.heap[N]? = some (.cells #[.string ⟨#[80, 97, 114, 115, 101, 73, 110, 116]⟩, .string s, ev] 205 (0, 0)) ∧ Below w.heap.size w w' := Any.strconv_ParseInt_10_at32_range Tryz.laysC174 s hlim h ev w hv hev
def Tryz.lays145_ren : Go.Shelf.Ren := ⟨fun | 145 => 68 | 220 => 94 | 219 => 116 | 217 => 90 | 225 => 131 | 224 => 132 | 267 => 133 | 266 => 112 | 314 => 151 | n => n, fun | 9 => 9 | 4 => 4 | 59 => 115 | 3 => 3 | 5 => 5 | 46 => 96 | 146 => 197 | 51 => 196 | n => n, fun | 1 => 1 | n => n⟩
theorem Tryz.lays145 : Go.Proofs.Lays.n145 Tryz.prog Tryz.lays145_ren := {
 mixed := by kernel_rfl
 f145 := Tryz.func68.trans (congrArg some (by kernel_rfl))
 f217 := Tryz.func90.trans (congrArg some (by kernel_rfl))
 f219 := Tryz.func116.trans (congrArg some (by kernel_rfl))
 f220 := Tryz.func94.trans (congrArg some (by kernel_rfl))
 f224 := Tryz.func132.trans (congrArg some (by kernel_rfl))
 f225 := Tryz.func131.trans (congrArg some (by kernel_rfl))
 f266 := Tryz.func112.trans (congrArg some (by kernel_rfl))
 f267 := Tryz.func133.trans (congrArg some (by kernel_rfl))
 f314 := Tryz.func151.trans (congrArg some (by kernel_rfl))
 t3 := Tryz.underlying3
 a3 := Tryz.isAgg3
 z3 := Tryz.sizeOf3
 v3 := Tryz.zeroValue3
 t4 := Tryz.underlying4
 a4 := Tryz.isAgg4
 z4 := Tryz.sizeOf4
 v4 := Tryz.zeroValue4
 t5 := Tryz.underlying5
 a5 := Tryz.isAgg5
 z5 := Tryz.sizeOf5
 v5 := Tryz.zeroValue5
 t9 := Tryz.underlying9
 a9 := Tryz.isAgg9
 z9 := Tryz.sizeOf9
 v9 := Tryz.zeroValue9
 t46 := Tryz.underlying96
 a46 := Tryz.isAgg96
 z46 := Tryz.sizeOf96
 v46 := Tryz.zeroValue96
 t51 := Tryz.underlying196
 a51 := Tryz.isAgg196
 z51 := Tryz.sizeOf196
 v51 := Tryz.zeroValue196
 t59 := Tryz.underlying115
 a59 := Tryz.isAgg115
 z59 := Tryz.sizeOf115
 v59 := Tryz.zeroValue115
 t146 := Tryz.underlying197
 a146 := Tryz.isAgg197
 z146 := Tryz.sizeOf197
 v146 := Tryz.zeroValue197
 g1 := by kernel_rfl }
open Go.RowKit Go.Lib in
/-- strings.Cut: "Cut slices s around the first instance of sep, returning the text before and after sep. The found result reports whether sep appears in s. If sep does not appear in s, cut returns s, "", false.": IT RETURNS 'Lib.cut s sep'; the world is as it was but for the count of draws. (LAID: no walk: one application.) -/
theorem Tryz.strings_Cut (s sep : ByteArray) (m : Int) (w : World) (hs : s.size < 4294967281) (hm : w.cell? ⟨1, 0, none⟩ = some (.int .i64 m)) :
  Calls Tryz.prog 68 #[.string s, .string sep] w fun e w' => e = .returned (.tuple #[.string ⟨(Lib.cut s.data.toList sep.data.toList).1.toArray⟩, .string ⟨(Lib.cut s.data.toList sep.data.toList).2.1.toArray⟩, .bool (Lib.cut s.data.toList sep.data.toList).2.2]) ∧ ∃ n, w' = w.drewN n := Any.strings_Cut Tryz.lays145 s sep m w hs hm
end Go.Proofs
end
section
namespace Go.Proofs.YtjplnhdplpiogaaGreatDoor.M
open Go.RowKit Go.Proofs.YtjplnhdplpiogaaGreatDoorW.PrintWords
def strings_IndexByte.f (a0 : ByteArray) (a1 : Int) : Option Int := some (Lib.indexByte a0.data.toList a1.toNat.toUInt8)
theorem strings_IndexByte.calls (a0 : ByteArray) (a1 : Int) (r : Int) (w : World) (h : strings_IndexByte.f a0 a1 = some r) :
  Calls Tryz.prog 60 #[.string a0, .int .u8 a1] w fun e w' => e = .returned (.int .i64 r) ∧ Drawn0 w w' := by
 obtain rfl := Option.some.inj h
 refine (Tryz.strings_IndexByte a0 a1 w).mono ?_
 rintro e w' ⟨rfl, rfl⟩
 exact ⟨rfl, Drawn0.refl _⟩
end Go.Proofs.YtjplnhdplpiogaaGreatDoor.M
end
section
namespace Go.Proofs
open Go.Shelf
def Tryz.lays107_ren : Go.Shelf.Ren := ⟨fun | 107 => 114 | 108 => 130 | n => n, fun | 28 => 47 | 3 => 3 | 4 => 4 | 0 => 0 | n => n, fun | n => n⟩
theorem Tryz.lays107 : Go.Proofs.Lays.n107 Tryz.prog Tryz.lays107_ren := {
 mixed := by kernel_rfl
 f107 := Tryz.func114.trans (congrArg some (by kernel_rfl))
 f108 := Tryz.func130.trans (congrArg some (by kernel_rfl))
 t0 := Tryz.underlying0
 a0 := Tryz.isAgg0
 z0 := Tryz.sizeOf0
 v0 := Tryz.zeroValue0
 t3 := Tryz.underlying3
 a3 := Tryz.isAgg3
 z3 := Tryz.sizeOf3
 v3 := Tryz.zeroValue3
 t4 := Tryz.underlying4
 a4 := Tryz.isAgg4
 z4 := Tryz.sizeOf4
 v4 := Tryz.zeroValue4
 t28 := Tryz.underlying47
 a28 := Tryz.isAgg47
 z28 := Tryz.sizeOf47
 v28 := Tryz.zeroValue47 }
open Go.Lib in
/-- slices.Contains at []int: "Contains reports whether v is present in s.": IT RETURNS 'elements.contains v'; the world is as it was. ITS CALLEE slices.Index IS MET BY ITS OWN CONTRACT OFF THE SHELF (lay that first): no loop is walked here. (LAID: no walk: one application.) -/
theorem Tryz.slices_Contains_int (b off n c : Nat) (zs : List Int) (x : Int) (w : World) (hz : n ≤ zs.length) (hbig : n ≤ 9223372036854775807) (hc : ∀ j, j < zs.length → w.cell? ⟨b, off + j, none⟩ = some (.int .i64 (zs.getD j 0))) :
  Calls Tryz.prog 114 #[.slice (some ⟨b, off, none⟩) n c, .int .i64 x] w fun e w' => e = .returned (.bool ((zs.take n).contains x)) ∧ w' = w := Any.slices_Contains_int Tryz.lays107 b off n c zs x w hz hbig hc
end Go.Proofs
end
section
namespace Go.Proofs.YtjplnhdplpiogaaGreatDoor.M
open Go.RowKit Go.Proofs.YtjplnhdplpiogaaGreatDoorW.PrintWords
set_option linter.unusedVariables false
/-- The blanks. -/
def isWhite (c : Int) : Bool := c == 0 || c == 9 || c == 10 || c == 12 || c == 13 || c == 32
def hex_White.f (a0 : Int) : Option Bool := some (isWhite a0)
set_option maxRecDepth 100000 in
theorem hex_blanks.calls (w : World) :
  Calls Tryz.prog 113 #[] w fun e w' => e = .returned (.agg #[.int .i64 0, .int .i64 9, .int .i64 10, .int .i64 12, .int .i64 13, .int .i64 32]) ∧ Below w.heap.size w w' := by
 go_enter Tryz.func113, Tryz.ntmps113
 go_wp2
 exact bodyPost_ret (v := .agg #[.int .i64 0, .int .i64 9, .int .i64 10, .int .i64 12, .int .i64 13, .int .i64 32]) (by simp [results, Tryz.results113, go_sem]) rfl ⟨rfl, (Below.refl _ _).alloc (Nat.le_refl _) _⟩
theorem white_contains (a0 : Int) : (([0, 9, 10, 12, 13, 32] : List Int).take 6).contains a0 = isWhite a0 := by
 unfold isWhite
 simp only [List.take, List.contains_cons, List.contains_nil, Bool.or_false, Bool.or_assoc]
set_option maxHeartbeats 1000000 in
set_option maxRecDepth 100000 in
theorem hex_White.calls (a0 : Int) (r : Bool) (w : World) (h : hex_White.f a0 = some r) :
  Calls Tryz.prog 91 #[.int .i64 a0] w fun e w' => e = .returned (.bool r) ∧ Below w.heap.size w w' := by
 obtain rfl := Option.some.inj h
 clear h
 go_enter Tryz.func91, Tryz.ntmps91
 go_wp2_with (first
  | (go_at_call 113; refine (hex_blanks.calls _).mono ?_; rintro e w1 ⟨rfl, hb⟩)
  | (go_at_call 114; refine (Tryz.slices_Contains_int _ 0 6 6 [0, 9, 10, 12, 13, 32] a0 _ (by decide) (by decide) ?_).mono ?_))
 ·intro j hj
  match j, hj with
  | 0, _ | 1, _ | 2, _ | 3, _ | 4, _ | 5, _ => simp
 rintro e w2 ⟨rfl, rfl⟩
 rw [white_contains]
 go_wp2
 go_ret
 exact ⟨rfl, below_alloc hb _⟩
end Go.Proofs.YtjplnhdplpiogaaGreatDoor.M
end
section
/- Laid by this session's program hbprint.py out of the translation: the function hornbook/lex.Class and its contract. -/
namespace Go.Proofs.YtjplnhdplpiogaaGreatDoor.M
open Go.RowKit Go.Proofs.YtjplnhdplpiogaaGreatDoorW.PrintWords Go.Proofs.YtjplnhdplpiogaaGreatDoorW.PrintLast Go.Proofs.YtjplnhdplpiogaaGreatDoorW.PrintMore
attribute [local go_sem] max2_int min2_int max_two min_two max_three min_three max_four min_four
set_option linter.unusedVariables false
set_option linter.unusedSimpArgs false
mutual
def lex_Class.j0 : Nat → Int → Int → Int → Bool → Option (Int)
 | 0, _, _, _, _ => none
 | k + 1, x0, x3, x4, x5 => if x5 = true then (some 2) else (if x4 = 123 then (lex_Class.j1 k x0 x3 (x4 == 123)) else (if x4 = 125 then (lex_Class.j1 k x0 x3 (x4 == 125)) else (if x4 = 47 then (lex_Class.j1 k x0 x3 (x4 == 47)) else (lex_Class.j1 k x0 x3 (x4 == 37)))))
def lex_Class.j1 : Nat → Int → Int → Bool → Option (Int)
 | 0, _, _, _ => none
 | k + 1, x0, x3, x12 => if x12 = true then (some 2) else ((hex_White.f x0).bind fun t108 => (if t108 = true then (some 1) else (some x3)))
end
def lex_Class.f (k : Nat) (a0 : Int) : Option (Int) := if a0 = 40 then (lex_Class.j0 k a0 0 a0 (a0 == 40)) else (if a0 = 41 then (lex_Class.j0 k a0 0 a0 (a0 == 41)) else (if a0 = 60 then (lex_Class.j0 k a0 0 a0 (a0 == 60)) else (if a0 = 62 then (lex_Class.j0 k a0 0 a0 (a0 == 62)) else (if a0 = 91 then (lex_Class.j0 k a0 0 a0 (a0 == 91)) else (lex_Class.j0 k a0 0 a0 (a0 == 93))))))
theorem lex_Class.mono_l : ∀ k, (∀ y0 y1 y2 y3, LeO (lex_Class.j0 k y0 y1 y2 y3) (lex_Class.j0 (k + 1) y0 y1 y2 y3)) ∧ (∀ y0 y1 y2, LeO (lex_Class.j1 k y0 y1 y2) (lex_Class.j1 (k + 1) y0 y1 y2))
 | 0 => ⟨fun _ _ _ _ r h => by simp [lex_Class.j0] at h, fun _ _ _ r h => by simp [lex_Class.j1] at h⟩
 | k + 1 => by
  obtain ⟨ih0, ih1⟩ := lex_Class.mono_l k
  refine ⟨?_, ?_⟩
  ·intro y0 y1 y2 y3
   unfold lex_Class.j0
   repeat' first
   | (with_reducible exact ih0 _ _ _ _)
   | (with_reducible exact ih1 _ _ _)
   | (with_reducible exact LeO.refl _)
   | (with_reducible exact LeO.none _)
   | (with_reducible refine LeO.ite ?_ ?_)
   | (with_reducible refine LeO.bind ?_ (fun _ => ?_))
   | exact ih0 _ _ _ _
   | exact ih1 _ _ _
   | exact LeO.none _
   | refine LeO.ite ?_ ?_
   | refine LeO.bind ?_ (fun _ => ?_)
  ·intro y0 y1 y2
   unfold lex_Class.j1
   repeat' first
   | (with_reducible exact ih0 _ _ _ _)
   | (with_reducible exact ih1 _ _ _)
   | (with_reducible exact LeO.refl _)
   | (with_reducible exact LeO.none _)
   | (with_reducible refine LeO.ite ?_ ?_)
   | (with_reducible refine LeO.bind ?_ (fun _ => ?_))
   | exact ih0 _ _ _ _
   | exact ih1 _ _ _
   | exact LeO.none _
   | refine LeO.ite ?_ ?_
   | refine LeO.bind ?_ (fun _ => ?_)
theorem lex_Class.mono : ∀ a0 k, LeO (lex_Class.f k a0) (lex_Class.f (k + 1) a0) := by
 intro a0 k
 obtain ⟨ih0, ih1⟩ := lex_Class.mono_l k
 unfold lex_Class.f
 repeat' first
   | (with_reducible exact ih0 _ _ _ _)
   | (with_reducible exact ih1 _ _ _)
   | (with_reducible exact LeO.refl _)
   | (with_reducible exact LeO.none _)
   | (with_reducible refine LeO.ite ?_ ?_)
   | (with_reducible refine LeO.bind ?_ (fun _ => ?_))
   | exact ih0 _ _ _ _
   | exact ih1 _ _ _
   | exact LeO.none _
   | refine LeO.ite ?_ ?_
   | refine LeO.bind ?_ (fun _ => ?_)
set_option maxHeartbeats 8000000 in
set_option maxRecDepth 100000 in
theorem lex_Class.calls (k : Nat) (a0 : Int) (r : Int) (w : World) (h : lex_Class.f k a0 = some r) :
  Calls Tryz.prog 61 #[.int .i64 a0] w fun e w' => e = .returned (.int .i64 r) ∧ Below w.heap.size w w' := by
 have HB := aM (Below.refl w.heap.size w)
 have H : (if a0 = 40 then (lex_Class.j0 k a0 0 a0 (a0 == 40)) else (if a0 = 41 then (lex_Class.j0 k a0 0 a0 (a0 == 41)) else (if a0 = 60 then (lex_Class.j0 k a0 0 a0 (a0 == 60)) else (if a0 = 62 then (lex_Class.j0 k a0 0 a0 (a0 == 62)) else (if a0 = 91 then (lex_Class.j0 k a0 0 a0 (a0 == 91)) else (lex_Class.j0 k a0 0 a0 (a0 == 93))))))) = some r := h
 clear h
 have HC2 := aM H
 clear H
 go_enter Tryz.func61, Tryz.ntmps61
 go_upto_if 5 with (fail)
 go_cut [5] (fun v5 wc => ∃ (kq : Nat) (x5_1 : Bool), v5 = .bool x5_1 ∧ Aside0 (lex_Class.j0 kq a0 0 a0 x5_1 = some r) ∧ Aside0 (kq ≤ k) ∧ Aside0 (Below w.heap.size w wc))
 case first =>
  have H := HC2.out
  clear HC2
  refine iEc H ?_ ?_<;>clear H<;>intro H c3b0 c3b1 c3
  ·clear c3
   (first | rw [c3b0] | (simp only [i64_w, i32_w]; rw [c3b0]) | skip)
   have H' := aM H
   clear H
   go_wp2
   go_meet
   case rel => exact ⟨_, ((a0 == 40)), vQ, H', ⟨by first | omega | exact Nat.le_refl _⟩, ⟨bQ⟩⟩
  (first | rw [c3b0] | (simp only [i64_w, i32_w]; rw [c3b0]) | skip)
  refine iEc H ?_ ?_<;>clear H<;>intro H c4b0 c4b1 c4
  ·clear c4
   have H' := aM H
   clear H
   go_wp2
   go_meet
   case rel => exact ⟨_, ((a0 == 41)), vQ, H', ⟨by first | omega | exact Nat.le_refl _⟩, ⟨bQ⟩⟩
  refine iEc H ?_ ?_<;>clear H<;>intro H c5b0 c5b1 c5
  ·clear c5
   have H' := aM H
   clear H
   go_wp2
   go_meet
   case rel => exact ⟨_, ((a0 == 60)), vQ, H', ⟨by first | omega | exact Nat.le_refl _⟩, ⟨bQ⟩⟩
  refine iEc H ?_ ?_<;>clear H<;>intro H c6b0 c6b1 c6
  ·clear c6
   have H' := aM H
   clear H
   go_wp2
   go_meet
   case rel => exact ⟨_, ((a0 == 62)), vQ, H', ⟨by first | omega | exact Nat.le_refl _⟩, ⟨bQ⟩⟩
  refine iEc H ?_ ?_<;>clear H<;>intro H c7b0 c7b1 c7
  rotate_left
  ·have H' := aM H
   clear H
   go_wp2
   go_meet
   case rel => exact ⟨_, ((a0 == 93)), vQ, H', ⟨by first | omega | exact Nat.le_refl _⟩, ⟨bQ⟩⟩
  clear c7
  have H' := aM H
  clear H
  go_wp2
  go_meet
  case rel => exact ⟨_, ((a0 == 91)), vQ, H', ⟨by first | omega | exact Nat.le_refl _⟩, ⟨bQ⟩⟩
 case rest =>
  clear HC2
  try clear p2
  try clear c3
  try clear c3b0
  try clear c3b1
  try clear c4
  try clear c4b0
  try clear c4b1
  try clear c5
  try clear c5b0
  try clear c5b1
  try clear c6
  try clear c6b0
  try clear c6b1
  try clear c7
  try clear c7b0
  try clear c7b1
  obtain ⟨kq, x5_1, rfl, HA, HJ1, HB⟩ := hcut
  cases kq with
  | zero => exact absurd HA.out (by simp [lex_Class.j0])
  | succ kj1 =>
   have H := HA.out
   clear HA
   simp only [lex_Class.j0] at H
   by_cases c8 : x5_1 = true
   ·subst c8
    rw [if_pos rfl] at H
    obtain rfl := Option.some.inj H
    go_wp2
    go_ret
    exact ⟨eQ, bQ⟩
   replace c8 := Bool.eq_false_iff.mpr c8
   subst c8
   rw [if_neg (show ¬ (false = true) by decide)] at H
   have HC9 := aM H
   clear H
   go_upto_if 12 with (fail)
   go_cut [12] (fun v12 wc => ∃ (kq : Nat) (x12_8 : Bool), v12 = .bool x12_8 ∧ Aside0 (lex_Class.j1 kq a0 0 x12_8 = some r) ∧ Aside0 (kq ≤ kj1) ∧ Aside0 (Below w.heap.size w wc))
   case first =>
    have H := HC9.out
    clear HC9
    refine iEc H ?_ ?_<;>clear H<;>intro H c10b0 c10b1 c10
    ·clear c10
     (first | rw [c10b0] | (simp only [i64_w, i32_w]; rw [c10b0]) | skip)
     have H' := aM H
     clear H
     go_wp2
     go_meet
     case rel => exact ⟨_, ((a0 == 123)), vQ, H', ⟨by have := HJ1.out; first | omega | exact Nat.le_refl _⟩, ⟨bQ⟩⟩
    (first | rw [c10b0] | (simp only [i64_w, i32_w]; rw [c10b0]) | skip)
    refine iEc H ?_ ?_<;>clear H<;>intro H c11b0 c11b1 c11
    ·clear c11
     have H' := aM H
     clear H
     go_wp2
     go_meet
     case rel => exact ⟨_, ((a0 == 125)), vQ, H', ⟨by have := HJ1.out; first | omega | exact Nat.le_refl _⟩, ⟨bQ⟩⟩
    refine iEc H ?_ ?_<;>clear H<;>intro H c12b0 c12b1 c12
    rotate_left
    ·have H' := aM H
     clear H
     go_wp2
     go_meet
     case rel => exact ⟨_, ((a0 == 37)), vQ, H', ⟨by have := HJ1.out; first | omega | exact Nat.le_refl _⟩, ⟨bQ⟩⟩
    clear c12
    have H' := aM H
    clear H
    go_wp2
    go_meet
    case rel => exact ⟨_, ((a0 == 47)), vQ, H', ⟨by have := HJ1.out; first | omega | exact Nat.le_refl _⟩, ⟨bQ⟩⟩
   case rest =>
    clear HC9
    try clear c1
    try clear p2
    try clear c3
    try clear c3b0
    try clear c3b1
    try clear c4
    try clear c4b0
    try clear c4b1
    try clear c5
    try clear c5b0
    try clear c5b1
    try clear c6
    try clear c6b0
    try clear c6b1
    try clear c7
    try clear c7b0
    try clear c7b1
    try clear c8
    try clear c10
    try clear c10b0
    try clear c10b1
    try clear c11
    try clear c11b0
    try clear c11b1
    try clear c12
    try clear c12b0
    try clear c12b1
    try clear p2
    obtain ⟨kq, x12_8, rfl, HA, HJ8, HB⟩ := hcut
    cases kq with
    | zero => exact absurd HA.out (by simp [lex_Class.j1])
    | succ kj8 =>
     have H := HA.out
     clear HA
     simp only [lex_Class.j1] at H
     by_cases c13 : x12_8 = true
     ·subst c13
      rw [if_pos rfl] at H
      obtain rfl := Option.some.inj H
      go_wp2
      go_ret
      exact ⟨eQ, bQ⟩
     replace c13 := Bool.eq_false_iff.mpr c13
     subst c13
     rw [if_neg (show ¬ (false = true) by decide)] at H
     replace H := bS H
     obtain ⟨t108, A14, H⟩ := H
     try dsimp only at H
     by_cases c15 : t108 = true
     ·subst c15
      rw [if_pos rfl] at H
      obtain rfl := Option.some.inj H
      go_wp2_with (first | ((with_reducible refine gC 91 ?_); refine gL (some 18) Tryz.func91 #[.int .i64 a0] ?_; (with_reducible refine cB (hex_White.calls a0 true _ A14.out) ?_); intro w16 hb; replace HB := sB hb; clear hb))
      go_ret
      exact ⟨eQ, bQ⟩
     replace c15 := Bool.eq_false_iff.mpr c15
     subst c15
     rw [if_neg (show ¬ (false = true) by decide)] at H
     obtain rfl := Option.some.inj H
     go_wp2_with (first | ((with_reducible refine gC 91 ?_); refine gL (some 18) Tryz.func91 #[.int .i64 a0] ?_; (with_reducible refine cB (hex_White.calls a0 false _ A14.out) ?_); intro w17 hb; replace HB := sB hb; clear hb))
     go_ret
     exact ⟨eQ, bQ⟩
end Go.Proofs.YtjplnhdplpiogaaGreatDoor.M
end
section
/- Laid by this session's program hbprint.py out of the translation: the function hornbook/lex.Skip and its contract. -/
namespace Go.Proofs.YtjplnhdplpiogaaGreatDoor.M
open Go.RowKit Go.Proofs.YtjplnhdplpiogaaGreatDoorW.PrintWords Go.Proofs.YtjplnhdplpiogaaGreatDoorW.PrintLast Go.Proofs.YtjplnhdplpiogaaGreatDoorW.PrintMore
attribute [local go_sem] max2_int min2_int max_two min_two max_three min_three max_four min_four
set_option linter.unusedVariables false
set_option linter.unusedSimpArgs false
mutual
def lex_Skip.l0 : Nat → ByteArray → Int → Option (Int)
 | 0, _, _ => none
 | k + 1, x0, x5 => if x5 < (x0.size : Int) then (if 0 ≤ x5 then (if (bt x0 x5) = 37 then (if x5 ≤ (x0.size : Int) then ((strings_IndexByte.f (x0.extract (x5 : Int).toNat x0.size) 10).bind fun t110 => ((strings_IndexByte.f (x0.extract (x5 : Int).toNat x0.size) 13).bind fun t111 => (if t111 ≥ 0 then (if t110 < 0 then (lex_Skip.j1 k x0 x5 t110 t111 true) else (lex_Skip.j1 k x0 x5 t110 t111 (decide (t111 < t110)))) else (lex_Skip.j1 k x0 x5 t110 t111 false)))) else (none)) else ((lex_Class.f k (wrap64 (bt x0 x5))).bind fun t112 => (if t112 = 1 then (lex_Skip.l0 k x0 (wrap64 (x5 + 1))) else (some x5)))) else (none)) else (some x5)
def lex_Skip.j1 : Nat → ByteArray → Int → Int → Int → Bool → Option (Int)
 | 0, _, _, _, _, _ => none
 | k + 1, x0, x5, x6, x7, x38 => if x38 = true then (if x7 < 0 then (some (x0.size : Int)) else (lex_Skip.l0 k x0 (wrap64 ((wrap64 (x5 + x7)) + 1)))) else (if x6 < 0 then (some (x0.size : Int)) else (lex_Skip.l0 k x0 (wrap64 ((wrap64 (x5 + x6)) + 1))))
end
def lex_Skip.f (k : Nat) (a0 : ByteArray) (a1 : Int) : Option (Int) := (lex_place.f a0 a1).bind fun t109 => (lex_Skip.l0 k a0 t109)
theorem lex_Skip.mono_l : ∀ k, (∀ y0 y1, LeO (lex_Skip.l0 k y0 y1) (lex_Skip.l0 (k + 1) y0 y1)) ∧ (∀ y0 y1 y2 y3 y4, LeO (lex_Skip.j1 k y0 y1 y2 y3 y4) (lex_Skip.j1 (k + 1) y0 y1 y2 y3 y4))
 | 0 => ⟨fun _ _ r h => by simp [lex_Skip.l0] at h, fun _ _ _ _ _ r h => by simp [lex_Skip.j1] at h⟩
 | k + 1 => by
  obtain ⟨ih0, ih1⟩ := lex_Skip.mono_l k
  refine ⟨?_, ?_⟩
  ·intro y0 y1
   unfold lex_Skip.l0
   repeat' first
   | (with_reducible exact ih0 _ _)
   | (with_reducible exact ih1 _ _ _ _ _)
   | (with_reducible exact lex_Class.mono _ _)
   | (with_reducible exact LeO.refl _)
   | (with_reducible exact LeO.none _)
   | (with_reducible refine LeO.ite ?_ ?_)
   | (with_reducible refine LeO.bind ?_ (fun _ => ?_))
   | exact ih0 _ _
   | exact ih1 _ _ _ _ _
   | exact lex_Class.mono _ _
   | exact LeO.none _
   | refine LeO.ite ?_ ?_
   | refine LeO.bind ?_ (fun _ => ?_)
  ·intro y0 y1 y2 y3 y4
   unfold lex_Skip.j1
   repeat' first
   | (with_reducible exact ih0 _ _)
   | (with_reducible exact ih1 _ _ _ _ _)
   | (with_reducible exact lex_Class.mono _ _)
   | (with_reducible exact LeO.refl _)
   | (with_reducible exact LeO.none _)
   | (with_reducible refine LeO.ite ?_ ?_)
   | (with_reducible refine LeO.bind ?_ (fun _ => ?_))
   | exact ih0 _ _
   | exact ih1 _ _ _ _ _
   | exact lex_Class.mono _ _
   | exact LeO.none _
   | refine LeO.ite ?_ ?_
   | refine LeO.bind ?_ (fun _ => ?_)
theorem lex_Skip.mono : ∀ a0 a1 k, LeO (lex_Skip.f k a0 a1) (lex_Skip.f (k + 1) a0 a1) := by
 intro a0 a1 k
 obtain ⟨ih0, ih1⟩ := lex_Skip.mono_l k
 unfold lex_Skip.f
 repeat' first
   | (with_reducible exact ih0 _ _)
   | (with_reducible exact ih1 _ _ _ _ _)
   | (with_reducible exact lex_Class.mono _ _)
   | (with_reducible exact LeO.refl _)
   | (with_reducible exact LeO.none _)
   | (with_reducible refine LeO.ite ?_ ?_)
   | (with_reducible refine LeO.bind ?_ (fun _ => ?_))
   | exact ih0 _ _
   | exact ih1 _ _ _ _ _
   | exact lex_Class.mono _ _
   | exact LeO.none _
   | refine LeO.ite ?_ ?_
   | refine LeO.bind ?_ (fun _ => ?_)
set_option maxHeartbeats 8000000 in
set_option maxRecDepth 100000 in
theorem lex_Skip.calls (k : Nat) (a0 : ByteArray) (a1 : Int) (r : Int) (w : World) (h : lex_Skip.f k a0 a1 = some r) :
  Calls Tryz.prog 39 #[.string a0, .int .i64 a1] w fun e w' => e = .returned (.int .i64 r) ∧ Below w.heap.size w w' := by
 have HB := aM (Below.refl w.heap.size w)
 have H : ((lex_place.f a0 a1).bind fun t109 => (lex_Skip.l0 k a0 t109)) = some r := h
 clear h
 replace H := bS H
 obtain ⟨t109, A3, H⟩ := H
 try dsimp only at H
 have H' := aM H
 clear H
 go_enter Tryz.func39, Tryz.ntmps39
 go_wp2_with (first | ((with_reducible refine gC 59 ?_); refine gL (some 10) Tryz.func59 #[.string a0, .int .i64 a1] ?_; (with_reducible refine cB (lex_place.calls a0 a1 t109 _ A3.out) ?_); intro w4 hb; replace HB := sB hb; clear hb))
 go_loopg [5] k (fun kq v5 w' => ∃ (x5_1 : Int), v5 = .int .i64 x5_1 ∧ Aside0 (lex_Skip.l0 kq a0 x5_1 = some r) ∧ Aside0 (kq ≤ k) ∧ Aside0 (Below w.heap.size w w'))
 case atStart => exact ⟨(t109), vQ, H', ⟨Nat.le_refl _⟩, ⟨bQ⟩⟩
 case round =>
  clear H'
  try clear p2
  try clear c3
  obtain ⟨x5_1, rfl, HA, HK1, HB⟩ := hrel
  cases gk with
  | zero => exact absurd HA.out (by simp [lex_Skip.l0])
  | succ k1 =>
   have H := HA.out
   clear HA
   simp only [lex_Skip.l0] at H
   refine iD H ?_ ?_<;>clear H<;>intro H c5b0
   rotate_left
   ·obtain rfl := Option.some.inj H
    go_wp2
    go_ret
    exact ⟨eQ, bQ⟩
   refine iD H ?_ ?_<;>clear H<;>intro H c6b0
   rotate_left
   ·exact absurd H (by simp)
   refine iEc H ?_ ?_<;>clear H<;>intro H c8b0 c8b1 c8
   rotate_left
   ·replace H := bS H
    obtain ⟨t112, A22, H⟩ := H
    try dsimp only at H
    refine iEc H ?_ ?_<;>clear H<;>intro H c23b0 c23b1 c23
    rotate_left
    ·obtain rfl := Option.some.inj H
     have p7 : 0 ≤ (x5_1 : Int) := of_decide_eq_true hQ
     have q7 : x5_1 < (a0.size : Int) := of_decide_eq_true hQ
     have hx7 := bt_at a0 x5_1
     replace p7 := eq_true p7
     replace q7 := eq_true q7
     have p21 : 0 ≤ (x5_1 : Int) := of_decide_eq_true hQ
     have q21 : x5_1 < (a0.size : Int) := of_decide_eq_true hQ
     have hx21 := bt_at a0 x5_1
     replace p21 := eq_true p21
     replace q21 := eq_true q21
     go_wp2_with (first | ((with_reducible refine gC 61 ?_); refine gL (some 52) Tryz.func61 #[.int .i64 (wrap64 (bt a0 x5_1))] ?_; (with_reducible refine cB (lex_Class.calls k1 (wrap64 (bt a0 x5_1)) t112 _ A22.out) ?_); intro w25 hb; replace HB := sB hb; clear hb))
     go_ret
     exact ⟨eQ, bQ⟩
    clear c23
    have H' := aM H
    clear H
    have p7 : 0 ≤ (x5_1 : Int) := of_decide_eq_true hQ
    have q7 : x5_1 < (a0.size : Int) := of_decide_eq_true hQ
    have hx7 := bt_at a0 x5_1
    replace p7 := eq_true p7
    replace q7 := eq_true q7
    have p21 : 0 ≤ (x5_1 : Int) := of_decide_eq_true hQ
    have q21 : x5_1 < (a0.size : Int) := of_decide_eq_true hQ
    have hx21 := bt_at a0 x5_1
    replace p21 := eq_true p21
    replace q21 := eq_true q21
    go_wp2_with (first | ((with_reducible refine gC 61 ?_); refine gL (some 52) Tryz.func61 #[.int .i64 (wrap64 (bt a0 x5_1))] ?_; (with_reducible refine cB (lex_Class.calls k1 (wrap64 (bt a0 x5_1)) t112 _ A22.out) ?_); intro w24 hb; replace HB := sB hb; clear hb))
    go_roundg k1
    case measure => have := HK1.out; omega
    case rel => exact ⟨(wrap64 (x5_1 + 1)), vQ, H', ⟨by have := HK1.out; omega⟩, ⟨bQ⟩⟩
   clear c8
   have c9b0 := eq_true (of_decide_eq_true hQ : 0 ≤ x5_1)
   refine iNc H ?_ ?_<;>clear H<;>intro H c10
   rotate_left
   ·exact absurd H (by simp)
   have c10b0 := eq_true c10
   have c10b1 : decide (x5_1 ≤ (a0.size : Int)) = true := decide_eq_true c10
   clear c10
   replace H := bS H
   obtain ⟨t110, A11, H⟩ := H
   try dsimp only at H
   have c12b0 := eq_true (of_decide_eq_true hQ : 0 ≤ x5_1)
   have c13b0 := eq_true (of_decide_eq_true hQ : x5_1 ≤ (a0.size : Int))
   replace H := bS H
   obtain ⟨t111, A14, H⟩ := H
   try dsimp only at H
   have HC15 := aM H
   clear H
   have p7 : 0 ≤ (x5_1 : Int) := of_decide_eq_true hQ
   have q7 : x5_1 < (a0.size : Int) := of_decide_eq_true hQ
   have hx7 := bt_at a0 x5_1
   replace p7 := eq_true p7
   replace q7 := eq_true q7
   go_upto_region 6 with (first | ((with_reducible refine gC 60 ?_); refine gL (some 23) Tryz.func60 #[.string (a0.extract (x5_1 : Int).toNat a0.size), .int .u8 10] ?_; (with_reducible refine (strings_IndexByte.calls (a0.extract (x5_1 : Int).toNat a0.size) 10 t110 _ A11.out).mono ?_); rintro e w' ⟨rfl, ⟨nd, rfl⟩⟩; refine ⟨_, rfl, ?_⟩) | ((with_reducible refine gC 60 ?_); refine gL (some 27) Tryz.func60 #[.string (a0.extract (x5_1 : Int).toNat a0.size), .int .u8 13] ?_; (with_reducible refine (strings_IndexByte.calls (a0.extract (x5_1 : Int).toNat a0.size) 13 t111 _ A14.out).mono ?_); rintro e w' ⟨rfl, ⟨nd, rfl⟩⟩; refine ⟨_, rfl, ?_⟩))
   (try simp only [Act.put, List.setIfInBounds_toArray, List.set_cons_zero, List.set_cons_succ])
   go_cut [38] (fun v38 wc => ∃ (kq : Nat) (x38_14 : Bool), v38 = .bool x38_14 ∧ Aside0 (lex_Skip.j1 kq a0 x5_1 t110 t111 x38_14 = some r) ∧ Aside0 (kq ≤ k1) ∧ Aside0 (Below w.heap.size w wc))
   case first =>
    have H := HC15.out
    clear HC15
    refine iNc H ?_ ?_<;>clear H<;>intro H c16
    rotate_left
    ·have c16b0 : decide (0 ≤ t111) = false := decide_eq_false c16
     clear c16
     (first | rw [c16b0] | (simp only [i64_w, i32_w]; rw [c16b0]) | skip)
     have H' := aM H
     clear H
     go_wp2
     go_meet
     case rel => exact ⟨_, (false), vQ, H', ⟨by have := HK1.out; first | omega | exact Nat.le_refl _⟩, ⟨bQ⟩⟩
    have c16b0 : decide (0 ≤ t111) = true := decide_eq_true c16
    clear c16
    (first | rw [c16b0] | (simp only [i64_w, i32_w]; rw [c16b0]) | skip)
    refine iD H ?_ ?_<;>clear H<;>intro H c17b0
    ·have H' := aM H
     clear H
     go_wp2
     go_meet
     case rel => exact ⟨_, (true), vQ, H', ⟨by have := HK1.out; first | omega | exact Nat.le_refl _⟩, ⟨bQ⟩⟩
    have H' := aM H
    clear H
    go_wp2
    go_meet
    case rel => exact ⟨_, (decide (t111 < t110)), vQ, H', ⟨by have := HK1.out; first | omega | exact Nat.le_refl _⟩, ⟨bQ⟩⟩
   case rest =>
    clear HC15
    try clear c1
    try clear p2
    try clear c3
    try clear c5
    try clear c5b0
    try clear c6
    try clear c6b0
    try clear p7
    try clear q7
    try clear hx7
    try clear c8
    try clear c8b0
    try clear c8b1
    try clear c9
    try clear c9b0
    try clear c10
    try clear c10b0
    try clear c10b1
    try clear c12
    try clear c12b0
    try clear c13
    try clear c13b0
    try clear c16
    try clear c16b0
    try clear c17
    try clear c17b0
    try clear p2
    try clear p7
    try clear q7
    obtain ⟨kq, x38_14, rfl, HA, HJ14, HB⟩ := hcut
    cases kq with
    | zero => exact absurd HA.out (by simp [lex_Skip.j1])
    | succ kj14 =>
     have H := HA.out
     clear HA
     simp only [lex_Skip.j1] at H
     by_cases c18 : x38_14 = true
     ·subst c18
      rw [if_pos rfl] at H
      refine iD H ?_ ?_<;>clear H<;>intro H c19b0
      ·obtain rfl := Option.some.inj H
       go_wp2
       go_ret
       exact ⟨eQ, bQ⟩
      have H' := aM H
      clear H
      go_wp2
      go_roundg kj14
      case measure => have := HK1.out; have := HJ14.out; omega
      case rel => exact ⟨(wrap64 ((wrap64 (x5_1 + t111)) + 1)), vQ, H', ⟨by have := HK1.out; have := HJ14.out; omega⟩, ⟨bQ⟩⟩
     replace c18 := Bool.eq_false_iff.mpr c18
     subst c18
     rw [if_neg (show ¬ (false = true) by decide)] at H
     refine iD H ?_ ?_<;>clear H<;>intro H c20b0
     ·obtain rfl := Option.some.inj H
      go_wp2
      go_ret
      exact ⟨eQ, bQ⟩
     have H' := aM H
     clear H
     go_wp2
     go_roundg kj14
     case measure => have := HK1.out; have := HJ14.out; omega
     case rel => exact ⟨(wrap64 ((wrap64 (x5_1 + t110)) + 1)), vQ, H', ⟨by have := HK1.out; have := HJ14.out; omega⟩, ⟨bQ⟩⟩
end Go.Proofs.YtjplnhdplpiogaaGreatDoor.M
end
section
namespace Go.Proofs.YtjplnhdplpiogaaGreatDoor.M
open Go.RowKit Go.Maps Go.Proofs.YtjplnhdplpiogaaGreatDoorW.PrintWords
set_option linter.unusedVariables false
set_option linter.unusedSimpArgs false
theorem key3 : Keyed Tryz.prog 3 := int_keyed Tryz.underlying3
def signRow (x : Int) (s : List UInt8) : Lit × DataW Unit := (.int .i64 x, .lit (.string s))
def signMap : DataW Unit := .map [signRow 6 [91], signRow 7 [93], signRow 8 [60, 60], signRow 9 [62, 62], signRow 10 [123], signRow 11 [125]]
theorem signMap_eq : ((((((DataW.map ([] : List (Lit × DataW Unit))).put (.int .i64 6) (.lit (.string [91]))).put (.int .i64 7) (.lit (.string [93]))).put (.int .i64 8) (.lit (.string [60, 60]))).put (.int .i64 9) (.lit (.string [62, 62]))).put (.int .i64 10) (.lit (.string [123]))).put (.int .i64 11) (.lit (.string [125])) = signMap := by kernel_rfl
set_option maxHeartbeats 1000000 in
set_option maxRecDepth 100000 in
theorem signs_calls (w : World) : Calls Tryz.prog 62 #[] w fun e w' => ∃ b, e = .returned (.map (some b)) ∧ w.heap.size ≤ b ∧ w'.ownsMap (H := Unit) Tryz.prog 3 (plainElem Tryz.prog 9) b 6 signMap ∧ Below w.heap.size w w' := by
 have hmm := @run_makeMap Tryz.prog
 have o0 := World.ownsMap_made (H := Unit) w Tryz.prog 3 (plainElem Tryz.prog 9)
 obtain ⟨w1, r1, o1, g1⟩ := o0.update key3 Tryz.underlying104 (by decide) (keyOf_int_mk Tryz.underlying3 (a := 6) (q := .i64) (by decide)) (plainElem_string (H := Unit) Tryz.underlying9 (s := ⟨#[91]⟩) (by decide))
 obtain ⟨w2, r2, o2, g2⟩ := o1.update key3 Tryz.underlying104 (by decide) (keyOf_int_mk Tryz.underlying3 (a := 7) (q := .i64) (by decide)) (plainElem_string (H := Unit) Tryz.underlying9 (s := ⟨#[93]⟩) (by decide))
 obtain ⟨w3, r3, o3, g3⟩ := o2.update key3 Tryz.underlying104 (by decide) (keyOf_int_mk Tryz.underlying3 (a := 8) (q := .i64) (by decide)) (plainElem_string (H := Unit) Tryz.underlying9 (s := ⟨#[60, 60]⟩) (by decide))
 obtain ⟨w4, r4, o4, g4⟩ := o3.update key3 Tryz.underlying104 (by decide) (keyOf_int_mk Tryz.underlying3 (a := 9) (q := .i64) (by decide)) (plainElem_string (H := Unit) Tryz.underlying9 (s := ⟨#[62, 62]⟩) (by decide))
 obtain ⟨w5, r5, o5, g5⟩ := o4.update key3 Tryz.underlying104 (by decide) (keyOf_int_mk Tryz.underlying3 (a := 10) (q := .i64) (by decide)) (plainElem_string (H := Unit) Tryz.underlying9 (s := ⟨#[123]⟩) (by decide))
 obtain ⟨w6, r6, o6, g6⟩ := o5.update key3 Tryz.underlying104 (by decide) (keyOf_int_mk Tryz.underlying3 (a := 11) (q := .i64) (by decide)) (plainElem_string (H := Unit) Tryz.underlying9 (s := ⟨#[125]⟩) (by decide))
 have e := signMap_eq
 have HO : Aside0 (w6.ownsMap (H := Unit) Tryz.prog 3 (plainElem Tryz.prog 9) w.heap.size 6 signMap) := ⟨by rw [← e]; exact o6⟩
 have b0 : Below w.heap.size w (w.alloc (.map #[] 0)) := below_alloc (Below.refl _ w) _
 have hb : ∀ {A B : World}, Below w.heap.size w A → A.grownBy B (some w.heap.size) → Below w.heap.size w B := fun h g => h.grown g h.size (fun k e => by cases e; exact Nat.le_refl _)
 have HB : Aside0 (Below w.heap.size w w6) := ⟨hb (hb (hb (hb (hb (hb b0 g1) g2) g3) g4) g5) g6⟩
 clear e o0 o1 o2 o3 o4 o5 o6 g1 g2 g3 g4 g5 g6 b0 hb
 go_enter Tryz.func62, Tryz.ntmps62
 go_wp2
 go_ret
 exact ⟨_, rfl, Nat.le_refl _, HO.out, HB.out⟩
end Go.Proofs.YtjplnhdplpiogaaGreatDoor.M
end
section
namespace Go.Proofs.YtjplnhdplpiogaaGreatDoor.M
open Go.RowKit Go.Proofs.YtjplnhdplpiogaaGreatDoorW.PrintWords
set_option linter.unusedVariables false
theorem le_rounds {α : Type} {g : Nat → Option α} (hm : ∀ k, LeO (g k) (g (k + 1))) {k : Nat} {r : α} (h : g k = some r) : ∀ {m : Nat}, k ≤ m → g m = some r := by
 intro m hk
 induction m with
 | zero =>
  obtain rfl : k = 0 := by omega
  exact h
 | succ m ih =>
  by_cases e : k = m + 1
  ·subst e; exact h
  ·exact hm m r (ih (by omega))
theorem and_mask (a : Int) (i : Nat) (hi : i ≤ 32) (m : Int) (hm : m = 2 ^ i - 1) : Go.bits .and .i64 a m = a % 2 ^ i := by
 have hpos : 0 < 2 ^ i := Nat.two_pow_pos i
 have hle : 2 ^ i ≤ 2 ^ 32 := Nat.pow_le_pow_right (by decide) hi
 obtain ⟨p, hp⟩ : ∃ p : Nat, 2 ^ i = p := ⟨_, rfl⟩
 have hc : m = ((2 ^ i - 1 : Nat) : Int) := by rw [hm, Int.natCast_sub hpos]; simp
 have e1 : (BitVec.ofInt 64 a).toNat = (a % (2 ^ 64 : Nat)).toNat := BitVec.toNat_ofInt a
 have e2 : (BitVec.ofInt 64 m).toNat = 2 ^ i - 1 := by
  rw [hc, BitVec.ofInt_natCast, BitVec.toNat_ofNat, Nat.mod_eq_of_lt]; rw [hp] at hle ⊢; omega
 have e3 : (BitVec.ofInt 64 a &&& BitVec.ofInt 64 m).toNat = (a % (2 ^ 64 : Nat)).toNat % 2 ^ i := by
  rw [BitVec.toNat_and, e1, e2, Nat.and_two_pow_sub_one_eq_mod]
 have e4 : Go.bits .and .i64 a m = IntKind.i64.wrap (((a % (2 ^ 64 : Nat)).toNat % 2 ^ i : Nat) : Int) := by
  show IntKind.i64.wrap _ = _
  exact congrArg (fun n : Nat => IntKind.i64.wrap (n : Int)) e3
 rw [e4, IntKind.wrap_i64]
 have hdv : (2 ^ i : Nat) ∣ (2 ^ 64 : Nat) := Nat.pow_dvd_pow 2 (by omega)
 have h1 : (((a % (2 ^ 64 : Nat)).toNat % 2 ^ i : Nat) : Int) = a % ((2 ^ i : Nat) : Int) := by
  rw [Int.natCast_emod, Int.toNat_of_nonneg (Int.emod_nonneg _ (by decide))]
  exact Int.emod_emod_of_dvd a (Int.natCast_dvd_natCast.2 hdv)
 rw [h1]
 have h2 : ((2 ^ i : Nat) : Int) = (2 : Int) ^ i := by simp
 rw [← h2, hp]
 have h3 := Int.emod_nonneg a (show (p : Int) ≠ 0 by omega)
 have h4 := Int.emod_lt_of_pos a (show (0 : Int) < p by omega)
 omega
theorem ba_eta (a : ByteArray) : a = ⟨a.data.toList.toArray⟩ := by cases a; rfl
theorem toList_data (a : ByteArray) : a.toList = a.data.toList := ByteArray.toList_eq a
theorem ext_from (a : ByteArray) (i : Nat) : a.extract i a.size = ⟨(a.data.toList.drop i).toArray⟩ := by
 rw [ba_eta (a.extract i a.size), Lib.extract_to_end]
theorem bt_get (a : ByteArray) (i : Nat) (h : i < a.size) : bt a (i : Int) = (a.data.toList[i]'(by simpa using h)).toNat := by
 unfold bt
 simp only [Int.toNat_natCast, h, dif_pos]
 rfl
theorem ba_list (l : List UInt8) : (⟨l.toArray⟩ : ByteArray).data.toList = l := by simp
theorem ba_toList (l : List UInt8) : (⟨l.toArray⟩ : ByteArray).toList = l := by rw [toList_data, ba_list]
theorem size_list (s : ByteArray) : s.size = s.data.toList.length := rfl
theorem ext_mid (s : ByteArray) (i j : Nat) : s.extract i j = ⟨((s.data.toList.drop i).take (j - i)).toArray⟩ := by
 rw [ba_eta (s.extract i j), Lib.extract_data]
theorem wrap_small {x : Int} (h0 : 0 ≤ x) (h1 : x < 9223372036854775808) : wrap64 x = x := by unfold wrap64; omega
end Go.Proofs.YtjplnhdplpiogaaGreatDoor.M
end
section
namespace Go.Proofs.YtjplnhdplpiogaaGreatDoor.M
open Go.RowKit Go.Proofs.YtjplnhdplpiogaaGreatDoorW.PrintWords Go.Proofs.YtjplnhdplpiogaaGreatDoorW.PrintLast Go.Proofs.YtjplnhdplpiogaaGreatDoorW.PrintMore
attribute [local go_sem] max2_int min2_int max_two min_two max_three min_three max_four min_four
set_option linter.unusedVariables false
set_option linter.unusedSimpArgs false
def tok_source_from.f (a0 : ByteArray) (a1 : Int) : Option (ByteArray) := if 0 ≤ (mn a1 (a0.size : Int)) then (if (mn a1 (a0.size : Int)) ≤ (a0.size : Int) then (some (a0.extract ((mn a1 (a0.size : Int)) : Int).toNat a0.size)) else (none)) else (none)
set_option maxHeartbeats 8000000 in
set_option maxRecDepth 100000 in
theorem tok_source_from.calls (a0 : ByteArray) (a1 : Int) (r : ByteArray) (w : World) (h : tok_source_from.f a0 a1 = some r) :
  Calls Tryz.prog 64 #[.string a0, .int .i64 a1] w fun e w' => e = .returned (.string r) ∧ Below w.heap.size w w' := by
 have HB := aM (Below.refl w.heap.size w)
 have H : (if 0 ≤ (mn a1 (a0.size : Int)) then (if (mn a1 (a0.size : Int)) ≤ (a0.size : Int) then (some (a0.extract ((mn a1 (a0.size : Int)) : Int).toNat a0.size)) else (none)) else (none)) = some r := h
 clear h
 obtain ⟨ji3, hji3⟩ : ∃ j_ : Int, (mn a1 (a0.size : Int)) = j_ := ⟨_, rfl⟩
 replace H : (if 0 ≤ (ji3) then (if (ji3) ≤ (a0.size : Int) then (some (a0.extract ((ji3) : Int).toNat a0.size)) else (none)) else (none)) = some r := by first | (rw [hji3] at H; exact H) | (simp only [hji3] at H ⊢; exact H)
 have hji3_ : (if (a0.size : Int) < a1 then (a0.size : Int) else a1) = ji3 := hji3
 refine iNc H ?_ ?_<;>clear H<;>intro H c4
 rotate_left
 ·exact absurd H (by simp)
 have c4b0 := eq_true c4
 have c4b1 : decide (0 ≤ (ji3)) = true := decide_eq_true c4
 clear c4
 refine iNc H ?_ ?_<;>clear H<;>intro H c5
 rotate_left
 ·exact absurd H (by simp)
 have c5b0 := eq_true c5
 have c5b1 : decide ((ji3) ≤ (a0.size : Int)) = true := decide_eq_true c5
 clear c5
 obtain rfl := Option.some.inj H
 go_enter Tryz.func64, Tryz.ntmps64
 go_wp2
 go_ret
 exact ⟨by first | rfl | (simp [errW_none, errW_some] <;> rfl) | (simp only [← hji3]; first | rfl | (simp [errW_none, errW_some] <;> rfl)) | (simp [*, errW_none, errW_some] <;> rfl), bQ⟩
def strings_HasPrefix.f (a0 : ByteArray) (a1 : ByteArray) : Option (Bool) := (stringslite_HasPrefix.f a0 a1).bind fun t113 => (some t113)
set_option maxHeartbeats 8000000 in
set_option maxRecDepth 100000 in
theorem strings_HasPrefix.calls (a0 : ByteArray) (a1 : ByteArray) (r : Bool) (w : World) (h : strings_HasPrefix.f a0 a1 = some r) :
  Calls Tryz.prog 63 #[.string a0, .string a1] w fun e w' => e = .returned (.bool r) ∧ Drawn0 w w' := by
 have H : ((stringslite_HasPrefix.f a0 a1).bind fun t113 => (some t113)) = some r := h
 clear h
 replace H := bS H
 obtain ⟨t113, A3, H⟩ := H
 try dsimp only at H
 obtain rfl := Option.some.inj H
 go_enter Tryz.func63, Tryz.ntmps63
 go_wp2_with (first | ((with_reducible refine gC 92 ?_); refine gL (some 7) Tryz.func92 #[.string a0, .string a1] ?_; (with_reducible refine (stringslite_HasPrefix.calls a0 a1 t113 _ A3.out).mono ?_); rintro e w' ⟨rfl, ⟨nd, rfl⟩⟩; refine ⟨_, rfl, ?_⟩))
 go_ret
 exact ⟨by first | rfl | (simp; done) | (simp [*]; done), by repeat (first | exact Drawn0.refl _ | apply Drawn0.step)⟩
end Go.Proofs.YtjplnhdplpiogaaGreatDoor.M
end
section
namespace Go.Proofs.YtjplnhdplpiogaaGreatDoor.M
open Go.RowKit Go.Maps Go.Proofs.YtjplnhdplpiogaaGreatDoorW.PrintWords Go.Proofs.YtjplnhdplpiogaaGreatDoorW.PrintLast
set_option linter.unusedVariables false
set_option linter.unusedSimpArgs false
/-- The six signs. -/
def isSign (x : Int) (s : List UInt8) : Prop := (x = 6 ∧ s = [91]) ∨ (x = 7 ∧ s = [93]) ∨ (x = 8 ∧ s = [60, 60]) ∨ (x = 9 ∧ s = [62, 62]) ∨ (x = 10 ∧ s = [123]) ∨ (x = 11 ∧ s = [125])
def signOf (l : List UInt8) : Option (Int × Nat) :=
 if [91].isPrefixOf l then some (6, 1) else if [93].isPrefixOf l then some (7, 1) else if [60, 60].isPrefixOf l then some (8, 2) else
 if [62, 62].isPrefixOf l then some (9, 2) else if [123].isPrefixOf l then some (10, 1) else if [125].isPrefixOf l then some (11, 1) else none
theorem signOf_hit {x : Int} {s l : List UInt8} (h : isSign x s) (hp : s.isPrefixOf l = true) : signOf l = some (x, s.length) := by
 rcases l with _ | ⟨a, _ | ⟨b, r⟩⟩
 ·rcases h with ⟨rfl, rfl⟩ | ⟨rfl, rfl⟩ | ⟨rfl, rfl⟩ | ⟨rfl, rfl⟩ | ⟨rfl, rfl⟩ | ⟨rfl, rfl⟩ <;> simp [List.isPrefixOf] at hp
 ·rcases h with ⟨rfl, rfl⟩ | ⟨rfl, rfl⟩ | ⟨rfl, rfl⟩ | ⟨rfl, rfl⟩ | ⟨rfl, rfl⟩ | ⟨rfl, rfl⟩ <;> simp only [List.isPrefixOf, Bool.and_eq_true, beq_iff_eq, Bool.and_true, Bool.and_false] at hp
  all_goals first | (subst hp; rfl) | (cases hp)
 ·rcases h with ⟨rfl, rfl⟩ | ⟨rfl, rfl⟩ | ⟨rfl, rfl⟩ | ⟨rfl, rfl⟩ | ⟨rfl, rfl⟩ | ⟨rfl, rfl⟩ <;> simp only [List.isPrefixOf, Bool.and_eq_true, beq_iff_eq, Bool.and_true] at hp
  all_goals first | (subst hp; rfl) | (obtain ⟨rfl, rfl⟩ := hp; rfl)
theorem signOf_none {l : List UInt8} (h : ∀ x s, isSign x s → s.isPrefixOf l = false) : signOf l = none := by
 unfold signOf
 rw [h 6 [91] (by simp [isSign]), h 7 [93] (by simp [isSign]), h 8 [60, 60] (by simp [isSign]), h 9 [62, 62] (by simp [isSign]), h 10 [123] (by simp [isSign]), h 11 [125] (by simp [isSign])]
 rfl
def tok_source_sign.f (a0 : ByteArray) (a1 : Int) : Option (Int × Int × Int × ByteArray × Int × Bool) :=
 if 0 ≤ a1 ∧ a1 ≤ a0.size ∧ a0.size ≤ 140737488351232 then
  match signOf (a0.data.toList.drop a1.toNat) with
  | some (x, n) => some (x, a1, 0, ⟨#[]⟩, a1 + n, true)
  | none => some (0, 0, 0, ⟨#[]⟩, a1, false)
 else none
theorem sign_at {x : Int} {c : ByteArray} (hl : Maps.has signMap (.int .i64 x) = true) (hat : ∀ zd, signMap.atKey (.int .i64 x) zd = .lit (.string c.data.toList)) : isSign x c.data.toList := by
 have h0 := hat (.lit (.string []))
 simp [signMap, Maps.has, signRow, Lit.sameKey] at hl
 have hs : ∀ (y : Int) (s : List UInt8), signMap.atKey (.int .i64 y) (.lit (.string [])) = .lit (.string s) → x = y → c.data.toList = s := by
  rintro y s hy rfl
  rw [hy] at h0
  injection h0 with h0
  injection h0 with h0
  exact h0.symm
 rcases hl with e | e | e | e | e | e
 ·exact .inl ⟨e.symm, hs 6 _ rfl e.symm⟩
 ·exact .inr (.inl ⟨e.symm, hs 7 _ rfl e.symm⟩)
 ·exact .inr (.inr (.inl ⟨e.symm, hs 8 _ rfl e.symm⟩))
 ·exact .inr (.inr (.inr (.inl ⟨e.symm, hs 9 _ rfl e.symm⟩)))
 ·exact .inr (.inr (.inr (.inr (.inl ⟨e.symm, hs 10 _ rfl e.symm⟩))))
 ·exact .inr (.inr (.inr (.inr (.inr ⟨e.symm, hs 11 _ rfl e.symm⟩))))
theorem has_sign {x : Int} {s : List UInt8} (h : isSign x s) : Maps.has signMap (.int .i64 x) = true ∧ ∀ zd, signMap.atKey (.int .i64 x) zd = .lit (.string s) := by
 rcases h with ⟨rfl, rfl⟩ | ⟨rfl, rfl⟩ | ⟨rfl, rfl⟩ | ⟨rfl, rfl⟩ | ⟨rfl, rfl⟩ | ⟨rfl, rfl⟩ <;> exact ⟨rfl, fun _ => rfl⟩
theorem tok_one (a b c : Int) (s : ByteArray) : (#[Value.int .i64 a, .int .i64 b, .int .i64 c, .string s] : Array Value).all (·.oneCell') = true := by simp [Value.oneCell']
theorem tok_info {a b c : Int} {s : ByteArray} : (Tryz.prog.info? 40).map (·.size) = some (#[Value.int .i64 a, .int .i64 b, .int .i64 c, .string s] : Array Value).size := by
 show _ = some 4
 kernel_rfl
theorem sign_same {x : Int} {s s' : List UInt8} (h : isSign x s) (h' : isSign x s') : s = s' := by
 have a := (has_sign h).2 (.lit (.string []))
 have b := (has_sign h').2 (.lit (.string []))
 rw [a] at b
 injection b with b
 injection b with b
theorem ranges_below {w w' : World} {b r n cnt : Nat} {left : Lit → Bool} (h : w.ranges (H := Unit) Tryz.prog 3 (plainElem Tryz.prog 9) b r n signMap left cnt) (hb : Below w.heap.size w w') : w'.ranges (H := Unit) Tryz.prog 3 (plainElem Tryz.prog 9) b r n signMap left cnt := by
 obtain ⟨es, clock, since, seen, c0, h1, F, hs, hD, h2, rest⟩ := h
 exact ⟨es, clock, since, seen, c0, (hb.block b (Array.getElem?_eq_some_iff.1 h1).1).trans h1, F, hs, hD, (hb.block r (Array.getElem?_eq_some_iff.1 h2).1).trans h2, rest⟩
theorem hasPrefix_eq (a b : ByteArray) : strings_HasPrefix.f a b = some (b.data.toList.isPrefixOf a.data.toList) := by
 unfold strings_HasPrefix.f stringslite_HasPrefix.f
 by_cases h : (a.size : Int) ≥ (b.size : Int)
 ·rw [if_pos h, if_pos (by omega), if_pos (by omega), Option.bind_some]
  congr 1
  rw [Int.toNat_natCast, ext_mid, ba_toList, toList_data, Nat.sub_zero, List.drop_zero, Bool.eq_iff_iff, beq_iff_eq, List.isPrefixOf_iff_prefix, List.prefix_iff_eq_take]
  exact ⟨fun e => e.symm, fun e => e.symm⟩
 ·rw [if_neg h, Option.bind_some]
  congr 1
  symm
  rw [Bool.eq_false_iff]
  intro hp
  have := (List.isPrefixOf_iff_prefix.1 hp).length_le
  rw [← size_list, ← size_list] at this
  omega
set_option maxHeartbeats 1000000 in
set_option maxRecDepth 1000000 in
theorem tok_source_sign.calls (a0 : ByteArray) (a1 : Int) (r1 : Int) (r2 : Int) (r3 : Int) (r4 : ByteArray) (r5 : Int) (r6 : Bool) (w : World) (h : tok_source_sign.f a0 a1 = some (r1, r2, r3, r4, r5, r6)) :
  Calls Tryz.prog 40 #[.string a0, .int .i64 a1] w fun e w' => e = .returned (.tuple #[.agg #[.int .i64 r1, .int .i64 r2, .int .i64 r3, .string r4], .int .i64 r5, .bool r6]) ∧ Below w.heap.size w w' := by
 unfold tok_source_sign.f at h
 split at h
 case isFalse => cases h
 rename_i hb
 obtain ⟨hb0, hb1, hb2⟩ := hb
 obtain ⟨p, rfl⟩ := Int.eq_ofNat_of_zero_le hb0
 rw [Int.toNat_natCast] at h
 have hp : p ≤ a0.size := by omega
 obtain ⟨rest, hrest⟩ : ∃ rest : ByteArray, rest = ⟨(a0.data.toList.drop p).toArray⟩ := ⟨_, rfl⟩
 have hf : tok_source_from.f a0 (p : Int) = some rest := by
  have hmn : mn (p : Int) (a0.size : Int) = (p : Int) := by unfold mn; rw [if_neg (by omega)]
  unfold tok_source_from.f
  rw [hmn, if_pos (by omega), if_pos (by omega), Int.toNat_natCast, ext_from, hrest]
 have hrd : rest.data.toList = a0.data.toList.drop p := by rw [hrest]
 rw [← hrd] at h
 have HF := Aside0.mk hf
 have HH := Aside0.mk h
 clear hf h hrd hrest hb0
 go_enter Tryz.func40, Tryz.ntmps40
 go_wp2_with fail
 generalize hZ : (#[Value.int IntKind.i64 0, Value.int IntKind.i64 0, Value.int IntKind.i64 0, Value.string ⟨#[]⟩] : Array Value) = Z
 have hzs : Z.size = 4 := by rw [← hZ]; rfl
 have HZ := Aside0.mk hZ
 clear hZ
 refine (signs_calls _).mono ?_
 rintro e W1 ⟨b, rfl, hbb, hown, hb1⟩
 have hs1 : w.heap.size + 1 ≤ W1.heap.size := by have := hb1.size; simpa using this
 have hbb' : w.heap.size + 1 ≤ b := by simpa using hbb
 have HZ1 : Aside0 (W1.heap[w.heap.size]? = some (.cells Z 40 (0, 0))) := ⟨(hb1.block w.heap.size (by simp)).trans (by show (w.heap.push _)[w.heap.size]? = _; rw [Array.getElem?_push_size])⟩
 have HB1 : Aside0 (Below w.heap.size w W1) := ⟨below_step (below_alloc (Below.refl _ w) _) hb1⟩
 have HOWN := Aside0.mk hown
 clear hb1 hown hbb
 go_wp2_with (at_range; refine wpList_range_own _ rfl _ 104 rfl 3 9 key3 Tryz.underlying104 _ b 6 _ rfl HOWN.out ?_)
 intro w0 hrg0 hg0 hs0
 have HRG0 := Aside0.mk hrg0
 have HZ0 : Aside0 (w0.heap[w.heap.size]? = some (.cells Z 40 (0, 0))) := ⟨(hg0.block w.heap.size (by omega) (by simp)).trans HZ1.out⟩
 have HB0 : Aside0 (Below w.heap.size w w0) := ⟨HB1.out.grown hg0 HB1.out.size (fun k e => by cases e)⟩
 clear hrg0 hg0 HZ1 HB1 HOWN
 go_wp2_with fail
 go_loopw [7, 8] (fun _ _ wr => ∃ (left : Lit → Bool) (cnt : Nat), Aside0 (wr.ranges (H := Unit) Tryz.prog 3 (plainElem Tryz.prog 9) b W1.heap.size 6 signMap left cnt) ∧ Aside0 (Below w.heap.size w wr) ∧ Aside0 (wr.heap[w.heap.size]? = some (.cells Z 40 (0, 0))) ∧ w.heap.size + 1 ≤ wr.heap.size ∧ Aside0 (∀ kl, left kl = true → Maps.has signMap kl = true) ∧ Aside0 (∀ x s, isSign x s → left (.int .i64 x) = false → s.isPrefixOf rest.data.toList = false))
  (fun _ _ wr => wr.rangeLeft b W1.heap.size)
 case atStart => exact ⟨_, _, HRG0, HB0, HZ0, by omega, ⟨fun _ h => h⟩, ⟨fun x s hs hl => by rw [(has_sign hs).1] at hl; cases hl⟩⟩
 case round =>
  clear HRG0 HB0 HZ0
  obtain ⟨left, cnt, HRG, HB, HZR, hsr, HLE, HNO⟩ := hrel
  go_wp2_with (at_next; refine wpList_next_ranges_is _ rfl _ rfl 3 9 .i64 key3 Tryz.underlying3 Tryz.underlying9 b W1.heap.size 6 _ _ _ rfl HRG.out ?_ ?_)
  ·intro _ hl0
   have hno : signOf rest.data.toList = none := signOf_none (fun x s hs => HNO.out x s hs (hl0 _))
   have hh := HH.out
   rw [hno] at hh
   simp only [Option.some.injEq, Prod.mk.injEq] at hh
   obtain ⟨rfl, rfl, rfl, rfl, rfl, rfl⟩ := hh
   go_wp2_with (refine wpList_store_row rfl 40 (.tmp 4) (.tmp 28) rfl w.heap.size #[.int .i64 0, .int .i64 0, .int .i64 0, .string ⟨#[]⟩] rfl rfl 40 _ HZR.out tok_info (by rw [hzs]; rfl) (tok_one _ _ _ _) ?_)
   refine bodyPost_ret (v := .tuple #[.agg #[.int .i64 0, .int .i64 0, .int .i64 0, .string ⟨#[]⟩], .int .i64 p, .bool false]) ?_ rfl ⟨rfl, below_setRow HB.out (Nat.le_refl _) _⟩
   exact results_ctt (fn := Tryz.f40) (p := 4) (u := 5) (v := 6) (ty := 40) rfl _ _ w.heap.size 40 _ (0, 0) _ rfl (setRow_heap wr w.heap.size _ _ 40 (0, 0) HZR.out) Tryz.underlying40 rfl tok_info
  ·intro x c w1 cnt1 hwx hwc hlx hat hrg1 hlt hg1 hs1' hen
   have hsg := sign_at (HLE.out _ hlx) hat
   have hR : w.heap.size + 1 ≤ W1.heap.size := hs1
   have HZ1 : Aside0 (w1.heap[w.heap.size]? = some (.cells Z 40 (0, 0))) := ⟨(hg1.block w.heap.size (by omega) (by intro e; injection e with e; omega)).trans HZR.out⟩
   have HB1 : Aside0 (Below w.heap.size w w1) := ⟨HB.out.grown hg1 HB.out.size (fun k e => by cases e; omega)⟩
   have HRG1 := Aside0.mk hrg1
   have HSG := Aside0.mk hsg
   have HLX := Aside0.mk hlx
   have hcs : c.size ≤ 2 := by
    rcases hsg with ⟨-, e⟩ | ⟨-, e⟩ | ⟨-, e⟩ | ⟨-, e⟩ | ⟨-, e⟩ | ⟨-, e⟩ <;> rw [size_list, e] <;> decide
   have hpre := hasPrefix_eq rest c
   have hlt2 : wr.rangeLeft b W1.heap.size = cnt := HRG.out.left_eq
   have HLT2 := Aside0.mk hlt2
   have HLT := Aside0.mk hlt
   clear hrg1 hg1 hsg hlx hat hlt2 hlt HZR HB
   by_cases hq : c.data.toList.isPrefixOf rest.data.toList = true
   ·rw [hq] at hpre
    have HPRE := Aside0.mk hpre
    have hh := HH.out
    rw [signOf_hit HSG.out hq] at hh
    simp only [Option.some.injEq, Prod.mk.injEq] at hh
    obtain ⟨rfl, rfl, rfl, rfl, rfl, rfl⟩ := hh
    clear hpre hq
    go_wp2_with fail
    with_reducible refine (tok_source_from.calls a0 (p : Int) rest _ HF.out).mono ?_
    rintro e W2 ⟨rfl, hb⟩
    have HZ2 : Aside0 (W2.heap[w.heap.size]? = some (.cells Z 40 (0, 0))) := ⟨(hb.block w.heap.size (by omega)).trans HZ1.out⟩
    have HB2 : Aside0 (Below w.heap.size w W2) := ⟨below_step HB1.out hb⟩
    clear hb
    go_wp2_with fail
    with_reducible refine (strings_HasPrefix.calls rest c true _ HPRE.out).mono ?_
    rintro e W3 ⟨rfl, ⟨nd, rfl⟩⟩
    have HZ3 : Aside0 ((W2.drewN nd).heap[w.heap.size]? = some (.cells Z 40 (0, 0))) := HZ2
    have HB3 : Aside0 (Below w.heap.size w (W2.drewN nd)) := ⟨pw_below_drewN HB2.out nd⟩
    generalize W2.drewN nd = W3 at HZ3 HB3 ⊢
    have hcz : (p : Int) + (c.size : Int) < 9223372036854775808 := by omega
    go_wp2_with (refine wpList_store_row rfl 40 (.tmp 4) (.tmp 23) rfl w.heap.size #[.int .i64 x, .int .i64 p, .int .i64 0, .string ⟨#[]⟩] rfl rfl 40 _ HZ3.out tok_info (by rw [hzs]; rfl) (tok_one _ _ _ _) ?_)
    refine bodyPost_ret (v := .tuple #[.agg #[.int .i64 x, .int .i64 p, .int .i64 0, .string ⟨#[]⟩], .int .i64 (p + c.size), .bool true]) ?_ rfl ⟨rfl, below_setRow HB3.out (Nat.le_refl _) _⟩
    exact results_ctt (fn := Tryz.f40) (p := 4) (u := 5) (v := 6) (ty := 40) rfl _ _ w.heap.size 40 _ (0, 0) _ rfl (setRow_heap W3 w.heap.size _ _ 40 (0, 0) HZ3.out) Tryz.underlying40 rfl tok_info
   ·have hq' : c.data.toList.isPrefixOf rest.data.toList = false := Bool.eq_false_iff.2 hq
    rw [hq'] at hpre
    have HPRE := Aside0.mk hpre
    have HQ := Aside0.mk hq'
    clear hpre hq hq'
    have hsz1 : w1.heap.size = wr.heap.size := hs1'
    have HHEN := Aside0.mk hen
    go_wp2_with fail
    with_reducible refine (tok_source_from.calls a0 (p : Int) rest _ HF.out).mono ?_
    rintro e W2 ⟨rfl, hb⟩
    have HZ2 : Aside0 (W2.heap[w.heap.size]? = some (.cells Z 40 (0, 0))) := ⟨(hb.block w.heap.size (by omega)).trans HZ1.out⟩
    have HB2 : Aside0 (Below w.heap.size w W2) := ⟨below_step HB1.out hb⟩
    have HRG2 := Aside0.mk (ranges_below HRG1.out hb)
    have hs2 : w.heap.size + 1 ≤ W2.heap.size := by have := hb.size; omega
    clear hb
    go_wp2_with fail
    with_reducible refine (strings_HasPrefix.calls rest c false _ HPRE.out).mono ?_
    rintro e W3 ⟨rfl, ⟨nd, rfl⟩⟩
    have HZ3 : Aside0 ((W2.drewN nd).heap[w.heap.size]? = some (.cells Z 40 (0, 0))) := HZ2
    have HB3 : Aside0 (Below w.heap.size w (W2.drewN nd)) := ⟨pw_below_drewN HB2.out nd⟩
    have HRG3 : Aside0 ((W2.drewN nd).ranges (H := Unit) Tryz.prog 3 (plainElem Tryz.prog 9) b W1.heap.size 6 signMap (fun z => left z && !z.sameKey (.int .i64 x)) cnt1) := HRG2
    have hs3 : w.heap.size + 1 ≤ (W2.drewN nd).heap.size := hs2
    generalize W2.drewN nd = W3 at HZ3 HB3 HRG3 hs3 ⊢
    go_wp2
    go_roundw
    case rel =>
     refine ⟨_, cnt1, HRG3, HB3, HZ3, hs3, ⟨fun kl hk => HLE.out kl (by simp only [Bool.and_eq_true] at hk; exact hk.1)⟩, ⟨fun x' s' hs' hl' => ?_⟩⟩
     simp only [Bool.and_eq_false_iff, Bool.not_eq_false'] at hl'
     rcases hl' with hl' | hl'
     ·exact HNO.out x' s' hs' hl'
     ·have hx : x' = x := by simpa [Lit.sameKey] using hl'
      subst hx
      have e1 := sign_same hs' HSG.out
      rw [e1]
      exact HQ.out
    case measure => rw [HRG3.out.left_eq, HLT2.out]; exact HLT.out
end Go.Proofs.YtjplnhdplpiogaaGreatDoor.M
end
section
namespace Go.Proofs.YtjplnhdplpiogaaGreatDoor.M
open Go.RowKit Go.Proofs.YtjplnhdplpiogaaGreatDoorW.PrintWords Go.Proofs.YtjplnhdplpiogaaGreatDoorW.PrintLast Go.Proofs.YtjplnhdplpiogaaGreatDoorW.PrintMore
attribute [local go_sem] max2_int min2_int max_two min_two max_three min_three max_four min_four
set_option linter.unusedVariables false
set_option linter.unusedSimpArgs false
def lex_Word.l0 : Nat → ByteArray → Int → Int → Option (ByteArray × Int)
 | 0, _, _, _ => none
 | k + 1, x0, x6, x7 => if x7 < (x0.size : Int) then (if 0 ≤ x7 then ((lex_Class.f k (wrap64 (bt x0 x7))).bind fun t115 => (if t115 = 0 then (lex_Word.l0 k x0 x6 (wrap64 (x7 + 1))) else (if 0 ≤ x6 then (if x6 ≤ x7 then (if x7 ≤ (x0.size : Int) then (some (x0.extract (x6 : Int).toNat (x7 : Int).toNat, x7)) else (none)) else (none)) else (none)))) else (none)) else (if 0 ≤ x6 then (if x6 ≤ x7 then (if x7 ≤ (x0.size : Int) then (some (x0.extract (x6 : Int).toNat (x7 : Int).toNat, x7)) else (none)) else (none)) else (none))
def lex_Word.f (k : Nat) (a0 : ByteArray) (a1 : Int) : Option (ByteArray × Int) := (lex_place.f a0 a1).bind fun t114 => (lex_Word.l0 k a0 t114 t114)
theorem lex_Word.mono_l : ∀ k, (∀ y0 y1 y2, LeO (lex_Word.l0 k y0 y1 y2) (lex_Word.l0 (k + 1) y0 y1 y2))
 | 0 => fun _ _ _ r h => by simp [lex_Word.l0] at h
 | k + 1 => by
  have ih0 := lex_Word.mono_l k
  ·intro y0 y1 y2
   unfold lex_Word.l0
   repeat' first
   | (with_reducible exact ih0 _ _ _)
   | (with_reducible exact lex_Class.mono _ _)
   | (with_reducible exact LeO.refl _)
   | (with_reducible exact LeO.none _)
   | (with_reducible refine LeO.ite ?_ ?_)
   | (with_reducible refine LeO.bind ?_ (fun _ => ?_))
   | exact ih0 _ _ _
   | exact lex_Class.mono _ _
   | exact LeO.none _
   | refine LeO.ite ?_ ?_
   | refine LeO.bind ?_ (fun _ => ?_)
theorem lex_Word.mono : ∀ a0 a1 k, LeO (lex_Word.f k a0 a1) (lex_Word.f (k + 1) a0 a1) := by
 intro a0 a1 k
 have ih0 := lex_Word.mono_l k
 unfold lex_Word.f
 repeat' first
   | (with_reducible exact ih0 _ _ _)
   | (with_reducible exact lex_Class.mono _ _)
   | (with_reducible exact LeO.refl _)
   | (with_reducible exact LeO.none _)
   | (with_reducible refine LeO.ite ?_ ?_)
   | (with_reducible refine LeO.bind ?_ (fun _ => ?_))
   | exact ih0 _ _ _
   | exact lex_Class.mono _ _
   | exact LeO.none _
   | refine LeO.ite ?_ ?_
   | refine LeO.bind ?_ (fun _ => ?_)
set_option maxHeartbeats 8000000 in
set_option maxRecDepth 100000 in
theorem lex_Word.calls (k : Nat) (a0 : ByteArray) (a1 : Int) (r1 : ByteArray) (r2 : Int) (w : World) (h : lex_Word.f k a0 a1 = some (r1, r2)) :
  Calls Tryz.prog 41 #[.string a0, .int .i64 a1] w fun e w' => e = .returned (.tuple #[.string r1, .int .i64 r2]) ∧ Below w.heap.size w w' := by
 have HB := aM (Below.refl w.heap.size w)
 have H : ((lex_place.f a0 a1).bind fun t114 => (lex_Word.l0 k a0 t114 t114)) = some (r1, r2) := h
 clear h
 replace H := bS H
 obtain ⟨t114, A3, H⟩ := H
 try dsimp only at H
 have H' := aM H
 clear H
 go_enter Tryz.func41, Tryz.ntmps41
 go_wp2_with (first | ((with_reducible refine gC 59 ?_); refine gL (some 10) Tryz.func59 #[.string a0, .int .i64 a1] ?_; (with_reducible refine cB (lex_place.calls a0 a1 t114 _ A3.out) ?_); intro w4 hb; replace HB := sB hb; clear hb))
 go_loopg [7] k (fun kq v7 w' => ∃ (x7_1 : Int), v7 = .int .i64 x7_1 ∧ Aside0 (lex_Word.l0 kq a0 t114 x7_1 = some (r1, r2)) ∧ Aside0 (kq ≤ k) ∧ Aside0 (Below w.heap.size w w'))
 case atStart => exact ⟨(t114), vQ, H', ⟨Nat.le_refl _⟩, ⟨bQ⟩⟩
 case round =>
  clear H'
  try clear p2
  try clear c4
  obtain ⟨x7_1, rfl, HA, HK1, HB⟩ := hrel
  cases gk with
  | zero => exact absurd HA.out (by simp [lex_Word.l0])
  | succ k1 =>
   have H := HA.out
   clear HA
   simp only [lex_Word.l0] at H
   refine iD H ?_ ?_<;>clear H<;>intro H c5b0
   rotate_left
   ·refine iNc H ?_ ?_<;>clear H<;>intro H c15
    rotate_left
    ·exact absurd H (by simp)
    have c15b0 := eq_true c15
    have c15b1 : decide (0 ≤ t114) = true := decide_eq_true c15
    clear c15
    refine iNc H ?_ ?_<;>clear H<;>intro H c16
    rotate_left
    ·exact absurd H (by simp)
    have c16b0 := eq_true c16
    have c16b1 : decide (t114 ≤ x7_1) = true := decide_eq_true c16
    clear c16
    refine iNc H ?_ ?_<;>clear H<;>intro H c17
    rotate_left
    ·exact absurd H (by simp)
    have c17b0 := eq_true c17
    have c17b1 : decide (x7_1 ≤ (a0.size : Int)) = true := decide_eq_true c17
    clear c17
    simp only [Option.some.injEq, Prod.mk.injEq] at H
    obtain ⟨rfl, rfl⟩ := H
    go_wp2
    go_ret2
    exact ⟨eQ, bQ⟩
   refine iD H ?_ ?_<;>clear H<;>intro H c6b0
   rotate_left
   ·exact absurd H (by simp)
   replace H := bS H
   obtain ⟨t115, A8, H⟩ := H
   try dsimp only at H
   refine iEc H ?_ ?_<;>clear H<;>intro H c9b0 c9b1 c9
   ·clear c9
    have H' := aM H
    clear H
    have p7 : 0 ≤ (x7_1 : Int) := of_decide_eq_true hQ
    have q7 : x7_1 < (a0.size : Int) := of_decide_eq_true hQ
    have hx7 := bt_at a0 x7_1
    replace p7 := eq_true p7
    replace q7 := eq_true q7
    go_wp2_with (first | (go_at_call 61; (with_reducible refine (lex_Class.calls k1 (wrap64 (bt a0 x7_1)) t115 _ A8.out).mono ?_); rintro e w10 ⟨rfl, hb⟩; replace HB := sB hb; clear hb))
    go_roundg k1
    case measure => have := HK1.out; omega
    case rel => exact ⟨(wrap64 (x7_1 + 1)), vQ, H', ⟨by have := HK1.out; omega⟩, ⟨bQ⟩⟩
   refine iNc H ?_ ?_<;>clear H<;>intro H c11
   rotate_left
   ·exact absurd H (by simp)
   have c11b0 := eq_true c11
   have c11b1 : decide (0 ≤ t114) = true := decide_eq_true c11
   clear c11
   refine iNc H ?_ ?_<;>clear H<;>intro H c12
   rotate_left
   ·exact absurd H (by simp)
   have c12b0 := eq_true c12
   have c12b1 : decide (t114 ≤ x7_1) = true := decide_eq_true c12
   clear c12
   refine iNc H ?_ ?_<;>clear H<;>intro H c13
   rotate_left
   ·exact absurd H (by simp)
   have c13b0 := eq_true c13
   have c13b1 : decide (x7_1 ≤ (a0.size : Int)) = true := decide_eq_true c13
   clear c13
   simp only [Option.some.injEq, Prod.mk.injEq] at H
   obtain ⟨rfl, rfl⟩ := H
   have p7 : 0 ≤ (x7_1 : Int) := of_decide_eq_true hQ
   have q7 : x7_1 < (a0.size : Int) := of_decide_eq_true hQ
   have hx7 := bt_at a0 x7_1
   replace p7 := eq_true p7
   replace q7 := eq_true q7
   go_wp2_with (first | (go_at_call 61; (with_reducible refine (lex_Class.calls k1 (wrap64 (bt a0 x7_1)) t115 _ A8.out).mono ?_); rintro e w14 ⟨rfl, hb⟩; replace HB := sB hb; clear hb))
   go_ret2
   exact ⟨eQ, bQ⟩
end Go.Proofs.YtjplnhdplpiogaaGreatDoor.M
end
section
namespace Go.Proofs.YtjplnhdplpiogaaGreatDoor.M
open Go.RowKit Go.Proofs.YtjplnhdplpiogaaGreatDoorW.PrintWords
set_option linter.unusedVariables false
theorem bd_size : (Tryz.prog.info? 109).map (·.size) = some 2 := by kernel_rfl
theorem bd_lies : liesAt Tryz.prog Tryz.prog.depth 109 (2 / Tryz.prog.cellsOf 109) 0 109 1 = true := by kernel_rfl
theorem bd_byte : (Tryz.prog.info? 5).map (fun i => (i.zero, i.size, i.bytes)) = some (some (.int .u8 0), 1, 1) := by kernel_rfl
/-- A builder of the call's own, in block b, that holds the bytes l. -/
abbrev IsBd (B b : Nat) (l : List UInt8) (w : World) : Prop := Lib.IsBuilderF 109 5 B b (Lib.byteCells l) w
set_option maxHeartbeats 1000000 in
set_option maxRecDepth 100000 in
theorem copyCheck_used (b : Nat) (w : World) (h0 : w.cell? ⟨b, 0, none⟩ = some (.pointer (some ⟨b, 0, none⟩))) :
  Calls Tryz.prog 93 #[.pointer (some ⟨b, 0, none⟩)] w fun e w' => e = .returned (.tuple #[]) ∧ w' = w := by
 obtain ⟨j, hj, _⟩ := Option.map_eq_some_iff.1 bd_size
 go_enter Tryz.func93, Tryz.ntmps93
 go_wp2
 rw [Lib.run_neq_ptr_same w _ Tryz.underlying107 hj]
 go_wp2
 go_end0
 exact ⟨rfl, rfl⟩
set_option maxHeartbeats 1000000 in
set_option maxRecDepth 100000 in
theorem copyCheck_fresh (b : Nat) (w : World) (h0 : w.cell? ⟨b, 0, none⟩ = some (.pointer none)) (hsh : w.shape? b = some (109, 2)) (hfz : w.frozen? ⟨b, 0, none⟩ = false) :
  Calls Tryz.prog 93 #[.pointer (some ⟨b, 0, none⟩)] w fun e w' => e = .returned (.tuple #[]) ∧ w' = w.setCell ⟨b, 0, none⟩ (.pointer (some ⟨b, 0, none⟩)) := by
 obtain ⟨j, hj, hjs⟩ := Option.map_eq_some_iff.1 bd_size
 go_enter Tryz.func93, Tryz.ntmps93
 go_wp2
 rw [Lib.run_to_unsafe w ⟨b, 0, none⟩ Tryz.underlying107 Tryz.underlying156 hj (by rw [hjs]; decide) hsh (Nat.zero_lt_succ 1)]
 simp only [Result.andThen]
 rw [Oper.upon_value]
 go_wp2
 rw [run_callFunc_extern Tryz.func115 (by kernel_rfl) (by kernel_rfl) (by kernel_rfl) (e := Extern.AbiNoEscape.same) (by kernel_rfl)]
 rw [Lib.run_noEscape]
 simp only [Result.andThen]
 rw [Oper.upon_value]
 go_wp2
 rw [Lib.run_from_unsafe w ⟨b, 0, none⟩ Tryz.underlying156 Tryz.underlying107 hj hsh bd_lies]
 simp only [Result.andThen]
 rw [Oper.upon_value]
 go_wp2
 go_end0
 exact ⟨rfl, rfl⟩
theorem copyCheck_k (B b : Nat) (bs : List Value) (w : World) (h : Lib.IsBuilderF 109 5 B b bs w) :
  Calls Tryz.prog 93 #[.pointer (some ⟨b, 0, none⟩)] w fun e w' => e = .returned (.tuple #[]) ∧ (Lib.BuilderAtF 109 5 B b (.pointer (some ⟨b, 0, none⟩)) bs w' ∧ Below B w w' ∧ Lib.OthersKept 5 (some b) w w') := by
 rcases h with h | h
 ·refine (copyCheck_fresh b w h.cell0 h.shape h.frozen0).mono ?_
  rintro e w' ⟨rfl, rfl⟩
  exact ⟨rfl, h.used _, (Below.refl B w).setCell (p := ⟨b, 0, none⟩) h.1 _, (Lib.OthersKept.refl _ _ w).setCell ⟨b, 0, none⟩ rfl _⟩
 ·refine (copyCheck_used b w h.cell0).mono ?_
  rintro e w' ⟨rfl, rfl⟩
  exact ⟨rfl, h, Below.refl B _, Lib.OthersKept.refl _ _ _⟩
set_option maxHeartbeats 2000000 in
set_option maxRecDepth 100000 in
theorem WriteByte_k (B b : Nat) (bs : List Value) (c : Int) (w : World) (h : Lib.IsBuilderF 109 5 B b bs w) (hlen : bs.length + 1 ≤ 140737488355328) (hBw : B ≤ w.heap.size) :
  Calls Tryz.prog 66 #[.pointer (some ⟨b, 0, none⟩), .int .u8 c] w fun e w' => e = .returned .nilIface ∧ (Lib.BuilderAtF 109 5 B b (.pointer (some ⟨b, 0, none⟩)) (bs ++ [.int .u8 c]) w' ∧ Below B w w' ∧ Lib.OthersKept 5 (some b) w w') := by
 obtain ⟨i0, hi, hz0, hz1, hz2⟩ := info_parts bd_byte
 go_enter Tryz.func66, Tryz.ntmps66
 go_wp2_with (go_at_call 93; refine (copyCheck_k B b bs _ h).mono ?_)
 rintro e w1 ⟨rfl, h1, hb1, hk1⟩
 obtain ⟨hB, v, hbk, hown, hne⟩ := h1
 have c0 : w1.cell? ⟨b, 0, none⟩ = some (.pointer (some ⟨b, 0, none⟩)) := by rw [Lib.cell_of_heap hbk]; rfl
 have c1 : w1.cell? ⟨b, 1, none⟩ = some v := by rw [Lib.cell_of_heap hbk]; rfl
 go_wp2_with (at_builtin; refine wpList_append_ownF _ rfl _ _ 52 rfl B 5 i0 (.int .u8 0) 1 1 Tryz.underlying52 hi hz0 hz1 hz2 rfl (by decide) _ _ _ rfl (hown.alloc _) ⟨w1.heap.size, 0, none⟩ 1 1 [.int .u8 c] rfl rfl ?c1 ?c2 ?c3 ?c4 ?c5 ?_)
 case c1 =>
  intro j u hj
  match j, hj with
  | 0, hj => simp at hj; subst hj; simp [Addr.add]
 case c2 => intro u hu; simp at hu; subst hu; rfl
 case c3 => unfold maxLen; omega
 case c4 => omega
 case c5 => have := hb1.size; simp; omega
 intro v' w2 hown' hgrow _
 have hlt : b < w1.heap.size := by
  rcases Nat.lt_or_ge b w1.heap.size with h' | h'
  ·exact h'
  ·simp [Array.getElem?_eq_none h'] at hbk
 have hb2 : w2.heap[b]? = some (.cells #[.pointer (some ⟨b, 0, none⟩), v] 109 (0, 0)) := by
  rw [hgrow.block b (by simp; omega) (fun e => hne e.symm), Lib.alloc_old w1 _ b hlt]
  exact hbk
 have d0 : w2.cell? ⟨b, 0, none⟩ = some (.pointer (some ⟨b, 0, none⟩)) := by rw [Lib.cell_of_heap hb2]; rfl
 have d1 : w2.cell? ⟨b, 1, none⟩ = some v := by rw [Lib.cell_of_heap hb2]; rfl
 have f1 : w2.frozen? ⟨b, 1, none⟩ = false := Lib.frozen_of_heap hb2 1
 obtain ⟨g, cap, rfl⟩ : ∃ g cap, v' = .slice (some ⟨g, 0, none⟩) (bs.length + 1) cap := by
  rcases hown'.2 with ⟨_, h0⟩ | ⟨g, cap, cur, fz, hv, _⟩
  ·omega
  ·exact ⟨g, cap, hv⟩
 go_wp2
 go_ret
 refine ⟨rfl, ?_, ?_, ((hk1.alloc _).grown hgrow (Lib.ownsRowF_kind (hown.alloc _))).setCell ⟨b, 1, none⟩ rfl _⟩
 ·exact Lib.BuilderAtF.put (T := 109) (e := 5) hB hb2 (bs' := bs ++ [.int .u8 c]) (by simpa using hown') (by decide)
 ·exact ((hb1.alloc (by have := hb1.size; omega) _).grown hgrow (by have := hb1.size; simp; omega) (fun k hk => (hown.lt k hk).1)).setCell (p := ⟨b, 1, none⟩) hB _
set_option maxHeartbeats 2000000 in
set_option maxRecDepth 100000 in
theorem WriteString_k (B b : Nat) (bs : List Value) (s : ByteArray) (w : World) (h : Lib.IsBuilderF 109 5 B b bs w) (hlen : bs.length + s.size ≤ 140737488355328) (hBw : B ≤ w.heap.size) :
  Calls Tryz.prog 71 #[.pointer (some ⟨b, 0, none⟩), .string s] w fun e w' => e = .returned (.tuple #[.int .i64 s.size, .nilIface]) ∧ (Lib.BuilderAtF 109 5 B b (.pointer (some ⟨b, 0, none⟩)) (bs ++ Lib.strCells s) w' ∧ Below B w w' ∧ Lib.OthersKept 5 (some b) w w') := by
 obtain ⟨i0, hi, hz0, hz1, hz2⟩ := info_parts bd_byte
 go_enter Tryz.func71, Tryz.ntmps71
 go_wp2_with (go_at_call 93; refine (copyCheck_k B b bs _ h).mono ?_)
 rintro e w1 ⟨rfl, h1, hb1, hk1⟩
 obtain ⟨hB, v, hbk, hown, hne⟩ := h1
 have c0 : w1.cell? ⟨b, 0, none⟩ = some (.pointer (some ⟨b, 0, none⟩)) := by rw [Lib.cell_of_heap hbk]; rfl
 have c1 : w1.cell? ⟨b, 1, none⟩ = some v := by rw [Lib.cell_of_heap hbk]; rfl
 go_wp2_with (at_builtin; refine Lib.wpList_append_own_stringF _ rfl _ _ 52 9 rfl B 5 i0 Tryz.underlying52 Tryz.underlying9 hi hz0 hz1 hz2 _ _ _ rfl hown s rfl ?c3 ?c4 ?c5 ?_)
 case c3 => unfold maxLen; omega
 case c4 => omega
 case c5 => have := hb1.size; omega
 intro v' w2 hown' hgrow _
 have hlt : b < w1.heap.size := by
  rcases Nat.lt_or_ge b w1.heap.size with h' | h'
  ·exact h'
  ·simp [Array.getElem?_eq_none h'] at hbk
 have hb2 : w2.heap[b]? = some (.cells #[.pointer (some ⟨b, 0, none⟩), v] 109 (0, 0)) := by
  rw [hgrow.block b hlt (fun e => hne e.symm)]
  exact hbk
 have d0 : w2.cell? ⟨b, 0, none⟩ = some (.pointer (some ⟨b, 0, none⟩)) := by rw [Lib.cell_of_heap hb2]; rfl
 have d1 : w2.cell? ⟨b, 1, none⟩ = some v := by rw [Lib.cell_of_heap hb2]; rfl
 have f1 : w2.frozen? ⟨b, 1, none⟩ = false := Lib.frozen_of_heap hb2 1
 obtain ⟨ao, n', cap, rfl⟩ : ∃ ao n' cap, v' = .slice ao n' cap := by
  rcases hown'.2 with ⟨hv, _⟩ | ⟨g, cap, cur, fz, hv, _⟩
  ·exact ⟨_, _, _, hv⟩
  ·exact ⟨_, _, _, hv⟩
 go_wp2
 go_ret2
 refine ⟨rfl, ?_, ?_, (hk1.grown hgrow (Lib.ownsRowF_kind hown)).setCell ⟨b, 1, none⟩ rfl _⟩
 ·exact Lib.BuilderAtF.put (T := 109) (e := 5) hB hb2 (bs' := bs ++ Lib.strCells s) (by simpa [Lib.strCells_length] using hown') (by decide)
 ·exact (hb1.grown hgrow (by have := hb1.size; omega) (fun k hk => (hown.lt k hk).1)).setCell (p := ⟨b, 1, none⟩) hB _
theorem IsBd.below {B b : Nat} {l : List UInt8} {w w' : World} (h : IsBd B b l w) (hb : Below w.heap.size w w') : IsBd B b l w' := by
 have key : ∀ p, Lib.BuilderAtF 109 5 B b p (Lib.byteCells l) w → Lib.BuilderAtF 109 5 B b p (Lib.byteCells l) w' := by
  rintro p ⟨hB, v, hbk, hown, hne⟩
  have hlt : b < w.heap.size := (Array.getElem?_eq_some_iff.1 hbk).1
  refine ⟨hB, v, (hb.block b hlt).trans hbk, hown.kept (row := none) (grown_of_below hb none) (by cases v.ownBlock <;> simp), hne⟩
 rcases h with h | h
 ·exact .inl (key _ h)
 ·exact .inr (key _ h)
end Go.Proofs.YtjplnhdplpiogaaGreatDoor.M
end
section
namespace Go.Proofs.YtjplnhdplpiogaaGreatDoor.M
open Go.RowKit Go.Proofs.YtjplnhdplpiogaaGreatDoorW.PrintWords Go.Proofs.YtjplnhdplpiogaaGreatDoorW.PrintLast Go.Proofs.YtjplnhdplpiogaaGreatDoorW.PrintMore
attribute [local go_sem] max2_int min2_int max_two min_two max_three min_three max_four min_four
set_option linter.unusedVariables false
set_option linter.unusedSimpArgs false
def hex_Digit.j0 : Nat → Int → Bool → Option (Int × Bool)
 | 0, _, _ => none
 | k + 1, x0, x10 => if x10 = true then (if (wrap64 (x0 - 32)) < 48 then (some (0, false)) else (if (wrap64 (x0 - 32)) > 70 then (some (0, false)) else ((strings_IndexByte.f (⟨#[48, 49, 50, 51, 52, 53, 54, 55, 56, 57, 65, 66, 67, 68, 69, 70]⟩ : ByteArray) ((wrap64 (x0 - 32)) % 256)).bind fun t116 => (some (mx t116 0, decide (t116 ≥ 0)))))) else (if x0 < 48 then (some (0, false)) else (if x0 > 70 then (some (0, false)) else ((strings_IndexByte.f (⟨#[48, 49, 50, 51, 52, 53, 54, 55, 56, 57, 65, 66, 67, 68, 69, 70]⟩ : ByteArray) ((x0) % 256)).bind fun t117 => (some (mx t117 0, decide (t117 ≥ 0))))))
def hex_Digit.f (k : Nat) (a0 : Int) : Option (Int × Bool) := if a0 ≥ 97 then (hex_Digit.j0 k a0 (decide (a0 ≤ 102))) else (hex_Digit.j0 k a0 false)
theorem hex_Digit.mono_l : ∀ k, (∀ y0 y1, LeO (hex_Digit.j0 k y0 y1) (hex_Digit.j0 (k + 1) y0 y1))
 | 0 => fun _ _ r h => by simp [hex_Digit.j0] at h
 | k + 1 => by
  have ih0 := hex_Digit.mono_l k
  ·intro y0 y1
   unfold hex_Digit.j0
   repeat' first
   | (with_reducible exact ih0 _ _)
   | (with_reducible exact LeO.refl _)
   | (with_reducible exact LeO.none _)
   | (with_reducible refine LeO.ite ?_ ?_)
   | (with_reducible refine LeO.bind ?_ (fun _ => ?_))
   | exact ih0 _ _
   | exact LeO.none _
   | refine LeO.ite ?_ ?_
   | refine LeO.bind ?_ (fun _ => ?_)
theorem hex_Digit.mono : ∀ a0 k, LeO (hex_Digit.f k a0) (hex_Digit.f (k + 1) a0) := by
 intro a0 k
 have ih0 := hex_Digit.mono_l k
 unfold hex_Digit.f
 repeat' first
   | (with_reducible exact ih0 _ _)
   | (with_reducible exact LeO.refl _)
   | (with_reducible exact LeO.none _)
   | (with_reducible refine LeO.ite ?_ ?_)
   | (with_reducible refine LeO.bind ?_ (fun _ => ?_))
   | exact ih0 _ _
   | exact LeO.none _
   | refine LeO.ite ?_ ?_
   | refine LeO.bind ?_ (fun _ => ?_)
set_option maxHeartbeats 8000000 in
set_option maxRecDepth 100000 in
theorem hex_Digit.calls (k : Nat) (a0 : Int) (r1 : Int) (r2 : Bool) (w : World) (h : hex_Digit.f k a0 = some (r1, r2)) :
  Calls Tryz.prog 65 #[.int .i64 a0] w fun e w' => e = .returned (.tuple #[.int .i64 r1, .bool r2]) ∧ Below w.heap.size w w' := by
 have HB := aM (Below.refl w.heap.size w)
 have H : (if a0 ≥ 97 then (hex_Digit.j0 k a0 (decide (a0 ≤ 102))) else (hex_Digit.j0 k a0 false)) = some (r1, r2) := h
 clear h
 have HC2 := aM H
 clear H
 go_enter Tryz.func65, Tryz.ntmps65
 go_upto_region 1 with (fail)
 go_cut [10] (fun v10 wc => ∃ (kq : Nat) (x10_1 : Bool), v10 = .bool x10_1 ∧ Aside0 (hex_Digit.j0 kq a0 x10_1 = some (r1, r2)) ∧ Aside0 (kq ≤ k) ∧ Aside0 (Below w.heap.size w wc))
 case first =>
  have H := HC2.out
  clear HC2
  refine iNc H ?_ ?_<;>clear H<;>intro H c3
  ·have c3b0 : decide (97 ≤ a0) = true := decide_eq_true c3
   clear c3
   (first | rw [c3b0] | (simp only [i64_w, i32_w]; rw [c3b0]) | skip)
   have H' := aM H
   clear H
   go_wp2
   go_meet
   case rel => exact ⟨_, (decide (a0 ≤ 102)), vQ, H', ⟨by first | omega | exact Nat.le_refl _⟩, ⟨bQ⟩⟩
  have c3b0 : decide (97 ≤ a0) = false := decide_eq_false c3
  clear c3
  (first | rw [c3b0] | (simp only [i64_w, i32_w]; rw [c3b0]) | skip)
  have H' := aM H
  clear H
  go_wp2
  go_meet
  case rel => exact ⟨_, (false), vQ, H', ⟨by first | omega | exact Nat.le_refl _⟩, ⟨bQ⟩⟩
 case rest =>
  clear HC2
  try clear p2
  try clear c3
  try clear c3b0
  obtain ⟨kq, x10_1, rfl, HA, HJ1, HB⟩ := hcut
  cases kq with
  | zero => exact absurd HA.out (by simp [hex_Digit.j0])
  | succ kj1 =>
   have H := HA.out
   clear HA
   simp only [hex_Digit.j0] at H
   by_cases c4 : x10_1 = true
   ·subst c4
    rw [if_pos rfl] at H
    refine iD H ?_ ?_<;>clear H<;>intro H c5b0
    ·simp only [Option.some.injEq, Prod.mk.injEq] at H
     obtain ⟨rfl, rfl⟩ := H
     go_wp2
     go_ret2
     exact ⟨eQ, bQ⟩
    refine iNc H ?_ ?_<;>clear H<;>intro H c6
    ·have c6b0 : decide (70 < (wrap64 (a0 - 32))) = true := decide_eq_true c6
     clear c6
     simp only [Option.some.injEq, Prod.mk.injEq] at H
     obtain ⟨rfl, rfl⟩ := H
     go_wp2
     go_ret2
     exact ⟨eQ, bQ⟩
    have c6b0 : decide (70 < (wrap64 (a0 - 32))) = false := decide_eq_false c6
    clear c6
    replace H := bS H
    obtain ⟨t116, A7, H⟩ := H
    try dsimp only at H
    obtain ⟨ji8, hji8⟩ : ∃ j_ : Int, (mx t116 0) = j_ := ⟨_, rfl⟩
    replace H : (some (ji8, decide (t116 ≥ 0))) = some (r1, r2) := by first | (rw [hji8] at H; exact H) | (simp only [hji8] at H ⊢; exact H)
    (try rw [hji8] at A7)
    (try (have hji8l : 0 ≤ ji8 := by (rw [← hji8]; unfold mx; (repeat' split) <;> omega)))
    (try (have hji8m : 0 ≤ ji8 := by omega))
    have hji8_ : (if t116 < 0 then 0 else t116) = ji8 := hji8
    simp only [Option.some.injEq, Prod.mk.injEq] at H
    obtain ⟨rfl, rfl⟩ := H
    go_wp2_with (first | ((with_reducible refine gC 60 ?_); refine gL (some 21) Tryz.func60 #[.string (⟨#[48, 49, 50, 51, 52, 53, 54, 55, 56, 57, 65, 66, 67, 68, 69, 70]⟩ : ByteArray), .int .u8 ((wrap64 (a0 - 32)) % 256)] ?_; (with_reducible refine (strings_IndexByte.calls (⟨#[48, 49, 50, 51, 52, 53, 54, 55, 56, 57, 65, 66, 67, 68, 69, 70]⟩ : ByteArray) ((wrap64 (a0 - 32)) % 256) t116 _ A7.out).mono ?_); rintro e w' ⟨rfl, ⟨nd, rfl⟩⟩; refine ⟨_, rfl, ?_⟩))
    go_ret2
    exact ⟨by first | rfl | (simp [errW_none, errW_some] <;> rfl) | (simp only [← hji8]; first | rfl | (simp [errW_none, errW_some] <;> rfl)) | (simp [*, errW_none, errW_some] <;> rfl), bQ⟩
   replace c4 := Bool.eq_false_iff.mpr c4
   subst c4
   rw [if_neg (show ¬ (false = true) by decide)] at H
   refine iD H ?_ ?_<;>clear H<;>intro H c9b0
   ·simp only [Option.some.injEq, Prod.mk.injEq] at H
    obtain ⟨rfl, rfl⟩ := H
    go_wp2
    go_ret2
    exact ⟨eQ, bQ⟩
   refine iNc H ?_ ?_<;>clear H<;>intro H c10
   ·have c10b0 : decide (70 < a0) = true := decide_eq_true c10
    clear c10
    simp only [Option.some.injEq, Prod.mk.injEq] at H
    obtain ⟨rfl, rfl⟩ := H
    go_wp2
    go_ret2
    exact ⟨eQ, bQ⟩
   have c10b0 : decide (70 < a0) = false := decide_eq_false c10
   clear c10
   replace H := bS H
   obtain ⟨t117, A11, H⟩ := H
   try dsimp only at H
   obtain ⟨ji12, hji12⟩ : ∃ j_ : Int, (mx t117 0) = j_ := ⟨_, rfl⟩
   replace H : (some (ji12, decide (t117 ≥ 0))) = some (r1, r2) := by first | (rw [hji12] at H; exact H) | (simp only [hji12] at H ⊢; exact H)
   (try rw [hji12] at A11)
   (try (have hji12l : 0 ≤ ji12 := by (rw [← hji12]; unfold mx; (repeat' split) <;> omega)))
   (try (have hji12m : 0 ≤ ji12 := by omega))
   have hji12_ : (if t117 < 0 then 0 else t117) = ji12 := hji12
   simp only [Option.some.injEq, Prod.mk.injEq] at H
   obtain ⟨rfl, rfl⟩ := H
   go_wp2_with (first | ((with_reducible refine gC 60 ?_); refine gL (some 21) Tryz.func60 #[.string (⟨#[48, 49, 50, 51, 52, 53, 54, 55, 56, 57, 65, 66, 67, 68, 69, 70]⟩ : ByteArray), .int .u8 ((a0) % 256)] ?_; (with_reducible refine (strings_IndexByte.calls (⟨#[48, 49, 50, 51, 52, 53, 54, 55, 56, 57, 65, 66, 67, 68, 69, 70]⟩ : ByteArray) ((a0) % 256) t117 _ A11.out).mono ?_); rintro e w' ⟨rfl, ⟨nd, rfl⟩⟩; refine ⟨_, rfl, ?_⟩))
   go_ret2
   exact ⟨by first | rfl | (simp [errW_none, errW_some] <;> rfl) | (simp only [← hji12]; first | rfl | (simp [errW_none, errW_some] <;> rfl)) | (simp [*, errW_none, errW_some] <;> rfl), bQ⟩
end Go.Proofs.YtjplnhdplpiogaaGreatDoor.M
end
section
namespace Go.Proofs.YtjplnhdplpiogaaGreatDoor.M
open Go.RowKit Go.Proofs.YtjplnhdplpiogaaGreatDoorW.PrintWords
set_option linter.unusedVariables false
def isDigB (c : UInt8) : Bool := decide (48 ≤ c.toNat) && decide (c.toNat ≤ 57)
def tenDigits : List UInt8 := [48, 49, 50, 51, 52, 53, 54, 55, 56, 57]
theorem ten_contains (c : UInt8) : tenDigits.contains c = isDigB c := by
 have : ∀ n : Fin 256, tenDigits.contains n.val.toUInt8 = isDigB n.val.toUInt8 := by decide +kernel
 have h := this ⟨c.toNat, c.toNat_lt⟩
 simpa using h
theorem dropWhile_nil (p : UInt8 → Bool) : ∀ l : List UInt8, l.dropWhile p = [] ↔ ∀ c ∈ l, p c = true
 | [] => by simp
 | x :: l => by
  rw [List.dropWhile_cons]
  split
  ·rename_i hx
   rw [dropWhile_nil p l]
   simp [hx]
  ·rename_i hx
   simp [hx]
theorem trim_nil (l : List UInt8) : (Lib.trimS l tenDigits = []) ↔ l.all isDigB = true := by
 unfold Lib.trimS Lib.trimLeftS Lib.trimRightS
 have e : (fun x => tenDigits.contains x) = isDigB := funext ten_contains
 rw [e]
 constructor
 ·intro h
  rw [dropWhile_nil] at h
  rw [List.all_eq_true]
  intro c hc
  by_cases hd : isDigB c = true
  ·exact hd
  ·have key : ∀ m : List UInt8, c ∈ m → c ∈ m.dropWhile isDigB := by
    intro m
    induction m with
    | nil => intro h; exact h
    | cons x m ih =>
     intro hm
     rw [List.dropWhile_cons]
     split
     ·rename_i hx
      rcases List.mem_cons.1 hm with rfl | hm
      ·exact absurd hx hd
      ·exact ih hm
     ·exact hm
   exact h c (by rw [List.mem_reverse]; exact key _ (List.mem_reverse.2 hc))
 ·intro h
  rw [List.all_eq_true] at h
  have : l.reverse.dropWhile isDigB = [] := by
   rw [dropWhile_nil]
   intro c hc
   exact h c (List.mem_reverse.1 hc)
  rw [this]; rfl
def strings_Trim.f (a0 a1 : ByteArray) : Option ByteArray := if a0.size ≤ 9223372036854775807 then (if a1.size < 4294967281 then (if a1.data.toList.all (fun b => decide (b.toNat < 128)) = true then some ⟨(Lib.trimS a0.data.toList a1.data.toList).toArray⟩ else none) else none) else none
theorem strings_Trim.calls (a0 a1 : ByteArray) (r : ByteArray) (w : World) (h : strings_Trim.f a0 a1 = some r) :
  Calls Tryz.prog 117 #[.string a0, .string a1] w fun e w' => e = .returned (.string r) ∧ Below w.heap.size w w' := by
 unfold strings_Trim.f at h
 split at h
 case isFalse => cases h
 rename_i h1
 split at h
 case isFalse => cases h
 rename_i h2
 split at h
 case isFalse => cases h
 rename_i h3
 obtain rfl := Option.some.inj h
 exact Any.strings_Trim_laid Tryz.lays160 (by kernel_rfl) a0 a1 w h1 h2 (ascii_of_all h3)
end Go.Proofs.YtjplnhdplpiogaaGreatDoor.M
end
section
namespace Go.Proofs.YtjplnhdplpiogaaGreatDoor.M
open Go.RowKit Go.Proofs.YtjplnhdplpiogaaGreatDoorW.PrintWords Go.Proofs.YtjplnhdplpiogaaGreatDoorW.PrintLast Go.Proofs.YtjplnhdplpiogaaGreatDoorW.PrintMore
attribute [local go_sem] max2_int min2_int max_two min_two max_three min_three max_four min_four
set_option linter.unusedVariables false
set_option linter.unusedSimpArgs false
def lex_whole.f (a0 : ByteArray) : Option (Bool) := if a0.toList = ([] : List UInt8) then (some false) else (if 0 < (a0.size : Int) then (if (bt a0 0) = 43 then (if 1 ≤ (a0.size : Int) then (if (a0.extract 1 a0.size).toList = ([] : List UInt8) then (some false) else ((strings_Trim.f (a0.extract 1 a0.size) (⟨#[48, 49, 50, 51, 52, 53, 54, 55, 56, 57]⟩ : ByteArray)).bind fun t145 => (some (t145.toList == ([] : List UInt8))))) else (none)) else (if (bt a0 0) = 45 then (if 1 ≤ (a0.size : Int) then (if (a0.extract 1 a0.size).toList = ([] : List UInt8) then (some false) else ((strings_Trim.f (a0.extract 1 a0.size) (⟨#[48, 49, 50, 51, 52, 53, 54, 55, 56, 57]⟩ : ByteArray)).bind fun t146 => (some (t146.toList == ([] : List UInt8))))) else (none)) else ((strings_Trim.f a0 (⟨#[48, 49, 50, 51, 52, 53, 54, 55, 56, 57]⟩ : ByteArray)).bind fun t147 => (some (t147.toList == ([] : List UInt8)))))) else (none))
set_option maxHeartbeats 8000000 in
set_option maxRecDepth 100000 in
theorem lex_whole.calls (a0 : ByteArray) (r : Bool) (w : World) (h : lex_whole.f a0 = some r) :
  Calls Tryz.prog 96 #[.string a0] w fun e w' => e = .returned (.bool r) ∧ Below w.heap.size w w' := by
 have HB := aM (Below.refl w.heap.size w)
 have H : (if a0.toList = ([] : List UInt8) then (some false) else (if 0 < (a0.size : Int) then (if (bt a0 0) = 43 then (if 1 ≤ (a0.size : Int) then (if (a0.extract 1 a0.size).toList = ([] : List UInt8) then (some false) else ((strings_Trim.f (a0.extract 1 a0.size) (⟨#[48, 49, 50, 51, 52, 53, 54, 55, 56, 57]⟩ : ByteArray)).bind fun t145 => (some (t145.toList == ([] : List UInt8))))) else (none)) else (if (bt a0 0) = 45 then (if 1 ≤ (a0.size : Int) then (if (a0.extract 1 a0.size).toList = ([] : List UInt8) then (some false) else ((strings_Trim.f (a0.extract 1 a0.size) (⟨#[48, 49, 50, 51, 52, 53, 54, 55, 56, 57]⟩ : ByteArray)).bind fun t146 => (some (t146.toList == ([] : List UInt8))))) else (none)) else ((strings_Trim.f a0 (⟨#[48, 49, 50, 51, 52, 53, 54, 55, 56, 57]⟩ : ByteArray)).bind fun t147 => (some (t147.toList == ([] : List UInt8)))))) else (none))) = some r := h
 clear h
 refine iEc H ?_ ?_<;>clear H<;>intro H c2b0 c2b1 c2
 ·clear c2
  obtain rfl := Option.some.inj H
  go_enter Tryz.func96, Tryz.ntmps96
  go_wp2
  go_ret
  exact ⟨eQ, bQ⟩
 refine iDc H ?_ ?_<;>clear H<;>intro H c3b0 c3
 rotate_left
 ·exact absurd H (by simp)
 have c3b1 : decide (0 < a0.size) = true := decide_eq_true (by omega)
 clear c3
 refine iEc H ?_ ?_<;>clear H<;>intro H c5b0 c5b1 c5
 ·clear c5
  refine iNc H ?_ ?_<;>clear H<;>intro H c6
  rotate_left
  ·exact absurd H (by simp)
  have c6b0 := eq_true c6
  have c6b1 : decide (1 ≤ (a0.size : Int)) = true := decide_eq_true c6
  clear c6
  refine iEc H ?_ ?_<;>clear H<;>intro H c7b0 c7b1 c7
  ·clear c7
   obtain rfl := Option.some.inj H
   have p4 : 0 ≤ (0 : Int) := (by omega)
   have q4 : 0 < a0.size := (by have : (0 : Int) < (a0.size : Int) := of_decide_eq_true hQ; omega)
   have hx4 : ∀ h : 0 < a0.size, ((a0[0]'h).toNat : Int) = bt a0 0 := bt_at a0 0
   clear p4
   have qi4 : (0 < (a0.size : Int)) = True := eq_true (of_decide_eq_true hQ)
   replace q4 := eq_true q4
   go_enter Tryz.func96, Tryz.ntmps96
   go_wp2
   go_ret
   exact ⟨eQ, bQ⟩
  replace H := bS H
  obtain ⟨t145, A8, H⟩ := H
  try dsimp only at H
  obtain rfl := Option.some.inj H
  have p4 : 0 ≤ (0 : Int) := (by omega)
  have q4 : 0 < a0.size := (by have : (0 : Int) < (a0.size : Int) := of_decide_eq_true hQ; omega)
  have hx4 : ∀ h : 0 < a0.size, ((a0[0]'h).toNat : Int) = bt a0 0 := bt_at a0 0
  clear p4
  have qi4 : (0 < (a0.size : Int)) = True := eq_true (of_decide_eq_true hQ)
  replace q4 := eq_true q4
  go_enter Tryz.func96, Tryz.ntmps96
  go_wp2_with (first | (go_at_call 117; (with_reducible refine (strings_Trim.calls (a0.extract 1 a0.size) (⟨#[48, 49, 50, 51, 52, 53, 54, 55, 56, 57]⟩ : ByteArray) t145 _ A8.out).mono ?_); rintro e w9 ⟨rfl, hb⟩; replace HB := sB hb; clear hb))
  go_ret
  exact ⟨eQ, bQ⟩
 refine iEc H ?_ ?_<;>clear H<;>intro H c11b0 c11b1 c11
 rotate_left
 ·replace H := bS H
  obtain ⟨t147, A16, H⟩ := H
  try dsimp only at H
  obtain rfl := Option.some.inj H
  have p4 : 0 ≤ (0 : Int) := (by omega)
  have q4 : 0 < a0.size := (by have : (0 : Int) < (a0.size : Int) := of_decide_eq_true hQ; omega)
  have hx4 : ∀ h : 0 < a0.size, ((a0[0]'h).toNat : Int) = bt a0 0 := bt_at a0 0
  clear p4
  have qi4 : (0 < (a0.size : Int)) = True := eq_true (of_decide_eq_true hQ)
  replace q4 := eq_true q4
  have p10 : 0 ≤ (0 : Int) := (by omega)
  have q10 : 0 < a0.size := (by have : (0 : Int) < (a0.size : Int) := of_decide_eq_true hQ; omega)
  have hx10 : ∀ h : 0 < a0.size, ((a0[0]'h).toNat : Int) = bt a0 0 := bt_at a0 0
  clear p10
  have qi10 : (0 < (a0.size : Int)) = True := eq_true (of_decide_eq_true hQ)
  replace q10 := eq_true q10
  go_enter Tryz.func96, Tryz.ntmps96
  go_wp2_with (first | (go_at_call 117; (with_reducible refine (strings_Trim.calls a0 (⟨#[48, 49, 50, 51, 52, 53, 54, 55, 56, 57]⟩ : ByteArray) t147 _ A16.out).mono ?_); rintro e w17 ⟨rfl, hb⟩; replace HB := sB hb; clear hb))
  go_ret
  exact ⟨eQ, bQ⟩
 clear c11
 refine iNc H ?_ ?_<;>clear H<;>intro H c12
 rotate_left
 ·exact absurd H (by simp)
 have c12b0 := eq_true c12
 have c12b1 : decide (1 ≤ (a0.size : Int)) = true := decide_eq_true c12
 clear c12
 refine iEc H ?_ ?_<;>clear H<;>intro H c13b0 c13b1 c13
 ·clear c13
  obtain rfl := Option.some.inj H
  have p4 : 0 ≤ (0 : Int) := (by omega)
  have q4 : 0 < a0.size := (by have : (0 : Int) < (a0.size : Int) := of_decide_eq_true hQ; omega)
  have hx4 : ∀ h : 0 < a0.size, ((a0[0]'h).toNat : Int) = bt a0 0 := bt_at a0 0
  clear p4
  have qi4 : (0 < (a0.size : Int)) = True := eq_true (of_decide_eq_true hQ)
  replace q4 := eq_true q4
  have p10 : 0 ≤ (0 : Int) := (by omega)
  have q10 : 0 < a0.size := (by have : (0 : Int) < (a0.size : Int) := of_decide_eq_true hQ; omega)
  have hx10 : ∀ h : 0 < a0.size, ((a0[0]'h).toNat : Int) = bt a0 0 := bt_at a0 0
  clear p10
  have qi10 : (0 < (a0.size : Int)) = True := eq_true (of_decide_eq_true hQ)
  replace q10 := eq_true q10
  go_enter Tryz.func96, Tryz.ntmps96
  go_wp2
  go_ret
  exact ⟨eQ, bQ⟩
 replace H := bS H
 obtain ⟨t146, A14, H⟩ := H
 try dsimp only at H
 obtain rfl := Option.some.inj H
 have p4 : 0 ≤ (0 : Int) := (by omega)
 have q4 : 0 < a0.size := (by have : (0 : Int) < (a0.size : Int) := of_decide_eq_true hQ; omega)
 have hx4 : ∀ h : 0 < a0.size, ((a0[0]'h).toNat : Int) = bt a0 0 := bt_at a0 0
 clear p4
 have qi4 : (0 < (a0.size : Int)) = True := eq_true (of_decide_eq_true hQ)
 replace q4 := eq_true q4
 have p10 : 0 ≤ (0 : Int) := (by omega)
 have q10 : 0 < a0.size := (by have : (0 : Int) < (a0.size : Int) := of_decide_eq_true hQ; omega)
 have hx10 : ∀ h : 0 < a0.size, ((a0[0]'h).toNat : Int) = bt a0 0 := bt_at a0 0
 clear p10
 have qi10 : (0 < (a0.size : Int)) = True := eq_true (of_decide_eq_true hQ)
 replace q10 := eq_true q10
 go_enter Tryz.func96, Tryz.ntmps96
 go_wp2_with (first | (go_at_call 117; (with_reducible refine (strings_Trim.calls (a0.extract 1 a0.size) (⟨#[48, 49, 50, 51, 52, 53, 54, 55, 56, 57]⟩ : ByteArray) t146 _ A14.out).mono ?_); rintro e w15 ⟨rfl, hb⟩; replace HB := sB hb; clear hb))
 go_ret
 exact ⟨eQ, bQ⟩
end Go.Proofs.YtjplnhdplpiogaaGreatDoor.M
end
section
namespace Go.Proofs.YtjplnhdplpiogaaGreatDoor.M
open Go.RowKit Go.Proofs.YtjplnhdplpiogaaGreatDoorW.PrintWords
set_option linter.unusedVariables false
/-- A hex digit's value. -/
def hexVal (c : Int) : Option Int := if 48 ≤ c ∧ c ≤ 57 then some (c - 48) else if 65 ≤ c ∧ c ≤ 70 then some (c - 55) else if 97 ≤ c ∧ c ≤ 102 then some (c - 87) else none
theorem digit_eq {k : Nat} (hk : 1 ≤ k) (c : Int) (h0 : 0 ≤ c) (h1 : c ≤ 255) : hex_Digit.f k c = some ((hexVal c).getD 0, (hexVal c).isSome) := by
 have : ∀ n : Fin 256, hex_Digit.f 1 (n.val : Int) = some ((hexVal n.val).getD 0, (hexVal n.val).isSome) := by decide +kernel
 have h := this ⟨c.toNat, by omega⟩
 have e : ((c.toNat : Nat) : Int) = c := by omega
 simp only [e] at h
 exact le_rounds (g := fun k => hex_Digit.f k c) (fun k => hex_Digit.mono c k) h hk
/-- A text is a sign or none, and digits. -/
def unsign (l : List UInt8) : List UInt8 := match l with
 | [] => []
 | c :: r => if c == 43 || c == 45 then r else c :: r
def wholeB (l : List UInt8) : Bool := !(unsign l).isEmpty && (unsign l).all isDigB
theorem trim_ten (a : ByteArray) (ha : a.size ≤ 9223372036854775807) : strings_Trim.f a ⟨#[48, 49, 50, 51, 52, 53, 54, 55, 56, 57]⟩ = some ⟨(Lib.trimS a.data.toList tenDigits).toArray⟩ := by
 unfold strings_Trim.f
 rw [if_pos ha, if_pos (by decide), if_pos (by decide)]
 rfl
theorem trim_test (a : ByteArray) : ((⟨(Lib.trimS a.data.toList tenDigits).toArray⟩ : ByteArray).toList == ([] : List UInt8)) = a.data.toList.all isDigB := by
 rw [toList_data]
 rw [Bool.eq_iff_iff, beq_iff_eq]
 exact trim_nil _
theorem whole_eq (a : ByteArray) (ha : a.size ≤ 9223372036854775807) : lex_whole.f a = some (wholeB a.data.toList) := by
 unfold lex_whole.f wholeB
 have hs : a.size = a.data.toList.length := rfl
 rw [toList_data]
 match hl : a.data.toList with
 | [] => simp [unsign]
 | c :: r =>
  rw [if_neg (by simp), if_pos (by rw [hs, hl]; simp)]
  have hb : bt a 0 = (c.toNat : Int) := by
   have := bt_get a 0 (by rw [hs, hl]; simp)
   simpa [hl] using this
  have hx : a.extract 1 a.size = ⟨r.toArray⟩ := by rw [ext_from, hl]; rfl
  have hxs : (⟨r.toArray⟩ : ByteArray).size ≤ 9223372036854775807 := by
   show r.toArray.size ≤ _
   rw [hs, hl] at ha
   simp at ha ⊢; omega
  have hxl : (⟨r.toArray⟩ : ByteArray).data.toList = r := by simp
  have h1 : (1 : Int) ≤ (a.size : Int) := by rw [hs, hl]; simp; omega
  rw [hb, hx, toList_data, hxl]
  have t1 := trim_ten ⟨r.toArray⟩ hxs
  have t2 := trim_ten a ha
  have u1 := trim_test ⟨r.toArray⟩
  have u2 := trim_test a
  rw [hxl] at u1
  rw [t1, t2]
  simp only [Option.bind_some]
  by_cases e1 : c = 43
  ·subst e1
   rw [if_pos (by rfl), if_pos h1]
   cases r with
   | nil => rfl
   | cons x y => rw [if_neg (by simp), u1]; simp [unsign]
  ·have n1 : ¬ (c.toNat : Int) = 43 := by
    intro h; apply e1; exact UInt8.toNat_inj.1 (by simpa using (show c.toNat = 43 by omega))
   rw [if_neg n1]
   by_cases e2 : c = 45
   ·subst e2
    rw [if_pos (by rfl), if_pos h1]
    cases r with
    | nil => rfl
    | cons x y => rw [if_neg (by simp), u1]; simp [unsign]
   ·have n2 : ¬ (c.toNat : Int) = 45 := by
     intro h; apply e2; exact UInt8.toNat_inj.1 (by simpa using (show c.toNat = 45 by omega))
    rw [if_neg n2, u2, hl]
    simp [unsign, e1, e2]
/-- A written name's bytes. -/
def nameGo : List UInt8 → List UInt8
 | [] => []
 | c :: [] => [c]
 | c :: a :: [] => [c, a]
 | c :: a :: b :: r => if c == 35 && (hexVal a.toNat).isSome && (hexVal b.toNat).isSome then (((hexVal a.toNat).getD 0 * 16 + (hexVal b.toNat).getD 0).toNat.toUInt8) :: nameGo r else c :: nameGo (a :: b :: r)
def lex_Name.f (a0 : ByteArray) : Option ByteArray := if a0.size ≤ 140737488355328 then some ⟨(nameGo a0.data.toList).toArray⟩ else none
theorem nameGo_plain (c : UInt8) (l : List UInt8) (h : (c == 35) = false) : nameGo (c :: l) = c :: nameGo l := by
 match l with
 | [] => rfl
 | [a] => rfl
 | a :: b :: r => rw [nameGo, h]; rfl
theorem nameGo_short (c : UInt8) (l : List UInt8) (h : l.length < 2) : nameGo (c :: l) = c :: nameGo l := by
 match l, h with
 | [], _ => rfl
 | [a], _ => rfl
theorem nameGo_no (c a b : UInt8) (l : List UInt8) (h : ((hexVal a.toNat).isSome && (hexVal b.toNat).isSome) = false) : nameGo (c :: a :: b :: l) = c :: nameGo (a :: b :: l) := by
 rw [nameGo, Bool.and_assoc, h, Bool.and_false]; rfl
theorem nameGo_yes (a b : UInt8) (l : List UInt8) (x y : Int) (ha : hexVal a.toNat = some x) (hb : hexVal b.toNat = some y) : nameGo (35 :: a :: b :: l) = (x * 16 + y).toNat.toUInt8 :: nameGo l := by
 rw [nameGo, ha, hb]; rfl
theorem drop_cons (s : ByteArray) (i : Nat) (h : i < s.size) : s.data.toList.drop i = s[i] :: s.data.toList.drop (i + 1) := by
 rw [List.drop_eq_getElem_cons (by simpa using h)]; rfl
theorem hexVal_range (c : Int) (x : Int) (h : hexVal c = some x) : 0 ≤ x ∧ x ≤ 15 := by
 unfold hexVal at h
 split at h
 ·simp at h; omega
 ·split at h
  ·simp at h; omega
  ·split at h
   ·simp at h; omega
   ·cases h
theorem or_digits (x y : Int) (hx : 0 ≤ x ∧ x ≤ 15) (hy : 0 ≤ y ∧ y ≤ 15) : Go.bits .or .i64 (x * 16) y = x * 16 + y := by
 have : ∀ a b : Fin 16, Go.bits .or .i64 ((a.val : Int) * 16) (b.val : Int) = (a.val : Int) * 16 + (b.val : Int) := by decide +kernel
 have h := this ⟨x.toNat, by omega⟩ ⟨y.toNat, by omega⟩
 have e1 : ((x.toNat : Nat) : Int) = x := by omega
 have e2 : ((y.toNat : Nat) : Int) = y := by omega
 simpa [e1, e2] using h
set_option maxHeartbeats 1000000 in
set_option maxRecDepth 1000000 in
theorem lex_Name.calls (a0 : ByteArray) (r : ByteArray) (w : World) (h : lex_Name.f a0 = some r) :
  Calls Tryz.prog 42 #[.string a0] w fun e w' => e = .returned (.string r) ∧ Below w.heap.size w w' := by
 unfold lex_Name.f at h
 split at h
 case isFalse => cases h
 rename_i hl
 obtain rfl := Option.some.inj h
 clear h
 go_enter Tryz.func42, Tryz.ntmps42
 go_wp2
 go_loopw [4] (fun i wr => ∃ (k : Nat) (acc : List UInt8), k ≤ a0.size ∧ acc.length ≤ k ∧ i = .int .i64 k ∧ Aside0 (acc ++ nameGo (a0.data.toList.drop k) = nameGo a0.data.toList) ∧ IsBd w.heap.size w.heap.size acc wr ∧ Below w.heap.size w wr) (fun i wr => a0.size - (intOf i).toNat)
 case atStart =>
  refine ⟨0, [], Nat.zero_le _, Nat.le_refl _, rfl, ⟨rfl⟩, (Lib.IsBuilderF.of (Lib.fresh_isBuilder _ _ w)), (Below.refl _ w).alloc (Nat.le_refl _) _⟩
 case round =>
  obtain ⟨k, acc, hk, hal, rfl, HA, hI, hbw⟩ := hrel
  by_cases hlt : k < a0.size
  ·have HD := Aside0.mk (drop_cons a0 k hlt)
   by_cases hc : (a0[k].toNat : Int) = 35
   ·have t1 : ((a0[k].toNat : Int) == 35) = true := by simpa using hc
    have hc' : a0[k] = 35 := by
     have : a0[k].toNat = 35 := by omega
     exact UInt8.toNat_inj.1 (by simpa using this)
    have HC := Aside0.mk hc'
    clear hc hc'
    by_cases hi2 : k + 2 < a0.size
    ·have hlt1 : k + 1 < a0.size := by omega
     have d1 := a0[k + 1].toNat_lt
     have d2 := a0[k + 2].toNat_lt
     have HD1 := Aside0.mk (drop_cons a0 (k + 1) hlt1)
     have HD2 := Aside0.mk (drop_cons a0 (k + 2) hi2)
     have c1 := digit_eq (Nat.le_refl 1) (a0[k + 1].toNat : Int) (by omega) (by omega)
     have c2 := digit_eq (Nat.le_refl 1) (a0[k + 2].toNat : Int) (by omega) (by omega)
     cases hv1 : hexVal (a0[k + 1].toNat : Int) with
     | none =>
      have hn := nameGo_no a0[k] a0[k + 1] a0[k + 2] (a0.data.toList.drop (k + 2 + 1)) (by rw [hv1]; rfl)
      rw [← HD2.out, ← HD1.out, ← HD.out] at hn
      have HN := Aside0.mk hn
      rw [hv1] at c1
      simp only [Option.getD_none, Option.isSome_none] at c1
      have C1 := Aside0.mk c1
      have C2 := Aside0.mk c2
      clear c1 c2 hn hv1
      go_wp2_with (go_at_call 65; with_reducible refine (hex_Digit.calls 1 _ _ _ _ C1.out).mono ?_)
      rintro e w1 ⟨rfl, hd⟩
      replace hI := hI.below hd
      replace hbw := below_then hbw hbw.size hd
      clear hd
      go_wp2_with (go_at_call 65; with_reducible refine (hex_Digit.calls 1 _ _ _ _ C2.out).mono ?_)
      rintro e w1 ⟨rfl, hd⟩
      replace hI := hI.below hd
      replace hbw := below_then hbw hbw.size hd
      clear hd
      go_wp2_with (go_at_call 66; with_reducible refine (WriteByte_k w.heap.size w.heap.size _ _ _ hI ?_ ?_).mono ?_)
      ·rw [Lib.byteCells_length]; omega
      ·exact hbw.size
      rintro e W2 ⟨rfl, h2, b2, k2⟩
      go_wp2
      go_roundw
      case rel => exact ⟨k + 1, acc ++ [a0[k]], by omega, by simp; omega, by go_num, ⟨by rw [← HA.out, HN.out]; simp⟩, by rw [IsBd, Lib.byteCells_append]; exact .inr h2, hbw.trans b2⟩
      case measure => simp [intOf]; omega
     | some x =>
      cases hv2 : hexVal (a0[k + 2].toNat : Int) with
      | none =>
       have hn := nameGo_no a0[k] a0[k + 1] a0[k + 2] (a0.data.toList.drop (k + 2 + 1)) (by rw [hv2]; exact Bool.and_false _)
       rw [← HD2.out, ← HD1.out, ← HD.out] at hn
       have HN := Aside0.mk hn
       rw [hv1] at c1
       rw [hv2] at c2
       simp only [Option.getD_none, Option.isSome_none] at c2
       simp only [Option.getD_some, Option.isSome_some] at c1
       have C1 := Aside0.mk c1
       have C2 := Aside0.mk c2
       clear c1 c2 hn hv1 hv2
       go_wp2_with (go_at_call 65; with_reducible refine (hex_Digit.calls 1 _ _ _ _ C1.out).mono ?_)
       rintro e w1 ⟨rfl, hd⟩
       replace hI := hI.below hd
       replace hbw := below_then hbw hbw.size hd
       clear hd
       go_wp2_with (go_at_call 65; with_reducible refine (hex_Digit.calls 1 _ _ _ _ C2.out).mono ?_)
       rintro e w1 ⟨rfl, hd⟩
       replace hI := hI.below hd
       replace hbw := below_then hbw hbw.size hd
       clear hd
       go_wp2_with (go_at_call 66; with_reducible refine (WriteByte_k w.heap.size w.heap.size _ _ _ hI ?_ ?_).mono ?_)
       ·rw [Lib.byteCells_length]; omega
       ·exact hbw.size
       rintro e W2 ⟨rfl, h2, b2, k2⟩
       go_wp2
       go_roundw
       case rel => exact ⟨k + 1, acc ++ [a0[k]], by omega, by simp; omega, by go_num, ⟨by rw [← HA.out, HN.out]; simp⟩, by rw [IsBd, Lib.byteCells_append]; exact .inr h2, hbw.trans b2⟩
       case measure => simp [intOf]; omega
      | some y =>
       have hn := nameGo_yes a0[k + 1] a0[k + 2] (a0.data.toList.drop (k + 2 + 1)) x y hv1 hv2
       rw [← HD2.out, ← HD1.out, ← HC.out, ← HD.out] at hn
       have HN := Aside0.mk hn
       have rx := hexVal_range _ _ hv1
       have ry := hexVal_range _ _ hv2
       have ho := or_digits x y rx ry
       rw [hv1] at c1
       rw [hv2] at c2
       simp only [Option.getD_some, Option.isSome_some] at c1 c2
       have C1 := Aside0.mk c1
       have C2 := Aside0.mk c2
       clear c1 c2 hn hv1 hv2
       go_wp2_with (go_at_call 65; with_reducible refine (hex_Digit.calls 1 _ _ _ _ C1.out).mono ?_)
       rintro e w1 ⟨rfl, hd⟩
       replace hI := hI.below hd
       replace hbw := below_then hbw hbw.size hd
       clear hd
       go_wp2_with (go_at_call 65; with_reducible refine (hex_Digit.calls 1 _ _ _ _ C2.out).mono ?_)
       rintro e w1 ⟨rfl, hd⟩
       replace hI := hI.below hd
       replace hbw := below_then hbw hbw.size hd
       clear hd
       go_wp2_with (go_at_call 66; with_reducible refine (WriteByte_k w.heap.size w.heap.size _ _ _ hI ?_ ?_).mono ?_)
       ·rw [Lib.byteCells_length]; omega
       ·exact hbw.size
       rintro e W2 ⟨rfl, h2, b2, k2⟩
       go_wp2
       go_roundw
       case rel =>
        refine ⟨k + 3, acc ++ [(x * 16 + y).toNat.toUInt8], by omega, by simp; omega, by go_num, ⟨by rw [← HA.out, HN.out]; simp⟩, ?_, hbw.trans b2⟩
        rw [IsBd, Lib.byteCells_append]
        have e8 : Lib.byteCells [(x * 16 + y).toNat.toUInt8] = [.int .u8 (x * 16 + y)] := by
         simp [Lib.byteCells]; omega
        rw [e8]
        exact .inr h2
       case measure => simp [intOf]; omega
    ·have hn := nameGo_short a0[k] (a0.data.toList.drop (k + 1)) (by rw [List.length_drop, Array.length_toList]; have : a0.data.size = a0.size := rfl; omega)
     rw [← HD.out] at hn
     have HN := Aside0.mk hn
     clear hn
     go_wp2_with (go_at_call 66; with_reducible refine (WriteByte_k w.heap.size w.heap.size _ _ _ hI ?_ ?_).mono ?_)
     ·rw [Lib.byteCells_length]; omega
     ·exact hbw.size
     rintro e W2 ⟨rfl, h2, b2, k2⟩
     go_wp2
     go_roundw
     case rel => exact ⟨k + 1, acc ++ [a0[k]], by omega, by simp; omega, by go_num, ⟨by rw [← HA.out, HN.out]; simp⟩, by rw [IsBd, Lib.byteCells_append]; exact .inr h2, hbw.trans b2⟩
     case measure => simp [intOf]; omega
   ·have t1 : ((a0[k].toNat : Int) == 35) = false := by simpa using hc
    have hn := nameGo_plain a0[k] (a0.data.toList.drop (k + 1)) (by
     rw [beq_eq_false_iff_ne]; intro e; apply hc; rw [e]; rfl)
    rw [← HD.out] at hn
    have HN := Aside0.mk hn
    clear hn hc
    go_wp2_with (go_at_call 66; with_reducible refine (WriteByte_k w.heap.size w.heap.size _ _ _ hI ?_ ?_).mono ?_)
    ·rw [Lib.byteCells_length]; omega
    ·exact hbw.size
    rintro e W2 ⟨rfl, h2, b2, k2⟩
    go_wp2
    go_roundw
    case rel => exact ⟨k + 1, acc ++ [a0[k]], by omega, by simp; omega, by go_num, ⟨by rw [← HA.out, HN.out]; simp⟩, by rw [IsBd, Lib.byteCells_append]; exact .inr h2, hbw.trans b2⟩
    case measure => simp [intOf]; omega
  ·go_wp2_with (go_at_call 67; refine (Tryz.Builder_String_any_k w.heap.size w.heap.size _ _ hI hbw.size).mono ?_)
   rintro e W1 ⟨rfl, _, b1, _⟩
   go_wp2
   go_ret
   have ha := HA.out
   rw [List.drop_of_length_le (by simp; omega)] at ha
   rw [← ha]
   simp only [nameGo, List.append_nil]
   exact ⟨rfl, hbw.trans b1⟩
def strings_Cut.f (a0 a1 : ByteArray) : Option (ByteArray × ByteArray × Bool) := if a0.size < 4294967281 then some (⟨(Lib.cut a0.data.toList a1.data.toList).1.toArray⟩, ⟨(Lib.cut a0.data.toList a1.data.toList).2.1.toArray⟩, (Lib.cut a0.data.toList a1.data.toList).2.2) else none
theorem strings_Cut.calls (a0 a1 : ByteArray) (r1 r2 : ByteArray) (r3 : Bool) (w : World) (hG : GW w) (h : strings_Cut.f a0 a1 = some (r1, r2, r3)) :
  Calls Tryz.prog 68 #[.string a0, .string a1] w fun e w' => e = .returned (.tuple #[.string r1, .string r2, .bool r3]) ∧ Below w.heap.size w w' := by
 unfold strings_Cut.f at h
 split at h
 case isFalse => cases h
 rename_i hb
 have h' := Option.some.inj h
 simp only [Prod.mk.injEq] at h'
 obtain ⟨rfl, rfl, rfl⟩ := h'
 obtain ⟨m, hm⟩ := hG.max
 refine (Tryz.strings_Cut a0 a1 m w hb hm).mono ?_
 rintro e w' ⟨rfl, n, rfl⟩
 exact ⟨rfl, pw_below_drewN (Below.refl _ _) n⟩
end Go.Proofs.YtjplnhdplpiogaaGreatDoor.M
end
section
/- Laid by this session's program hbprint.py out of the translation: the function hornbook/hex.UnHex and its contract. -/
namespace Go.Proofs.YtjplnhdplpiogaaGreatDoor.M
open Go.RowKit Go.Proofs.YtjplnhdplpiogaaGreatDoorW.PrintWords Go.Proofs.YtjplnhdplpiogaaGreatDoorW.PrintLast Go.Proofs.YtjplnhdplpiogaaGreatDoorW.PrintMore
attribute [local go_sem] max2_int min2_int max_two min_two max_three min_three max_four min_four
set_option linter.unusedVariables false
set_option linter.unusedSimpArgs false
mutual
def hex_UnHex.l0 : Nat → ByteArray → List Int → Bool → Int → Int → Option (List Int × Int × Int)
 | 0, _, _, _, _, _ => none
 | k + 1, x0, x5, x6, x11, x12 => if x12 < x11 then (if 0 ≤ x12 then (if x12 < (x0.size : Int) then ((hex_Digit.f k (wrap64 (bt x0 x12))).bind fun bt118 => (if bt118.2 = true then (hex_UnHex.j1 k x0 x5 x6 x12 bt118.1 bt118.2 x11 x12 false) else ((hex_White.f (wrap64 (bt x0 x12))).bind fun t120 => (hex_UnHex.j1 k x0 x5 x6 x12 bt118.1 bt118.2 x11 x12 t120)))) else (none)) else (none)) else (some (x5, (x0.size : Int), 0))
def hex_UnHex.j1 : Nat → ByteArray → List Int → Bool → Int → Int → Bool → Int → Int → Bool → Option (List Int × Int × Int)
 | 0, _, _, _, _, _, _, _, _, _ => none
 | k + 1, x0, x5, x6, x7, x8, x9, x11, x12, x33 => if x33 = true then (hex_UnHex.l0 k x0 x5 x6 x11 (wrap64 (x12 + 1))) else (if x9 = true then (if x6 = true then (if x5.length < 140737488355328 then (hex_UnHex.l0 k x0 (x5 ++ [(wrap64 (x8 * 16)) % 256]) (!x6) x11 (wrap64 (x12 + 1))) else (none)) else (if 0 ≤ (wrap64 ((x5.length : Int) - 1)) then (if (wrap64 ((x5.length : Int) - 1)) < (x5.length : Int) then (hex_UnHex.l0 k x0 (x5.set ((wrap64 ((x5.length : Int) - 1)) : Int).toNat (Go.bits .or .u8 (rd x5 (wrap64 ((x5.length : Int) - 1))) ((x8) % 256))) (!x6) x11 (wrap64 (x12 + 1))) else (none)) else (none))) else (some (([] : List Int), x7, 1)))
end
def hex_UnHex.f (k : Nat) (a0 : ByteArray) : Option (List Int × Int × Int) := hex_UnHex.l0 k a0 ([] : List Int) true (a0.size : Int) 0
theorem hex_UnHex.mono_l : ∀ k, (∀ y0 y1 y2 y3 y4, LeO (hex_UnHex.l0 k y0 y1 y2 y3 y4) (hex_UnHex.l0 (k + 1) y0 y1 y2 y3 y4)) ∧ (∀ y0 y1 y2 y3 y4 y5 y6 y7 y8, LeO (hex_UnHex.j1 k y0 y1 y2 y3 y4 y5 y6 y7 y8) (hex_UnHex.j1 (k + 1) y0 y1 y2 y3 y4 y5 y6 y7 y8))
 | 0 => ⟨fun _ _ _ _ _ r h => by simp [hex_UnHex.l0] at h, fun _ _ _ _ _ _ _ _ _ r h => by simp [hex_UnHex.j1] at h⟩
 | k + 1 => by
  obtain ⟨ih0, ih1⟩ := hex_UnHex.mono_l k
  refine ⟨?_, ?_⟩
  ·intro y0 y1 y2 y3 y4
   unfold hex_UnHex.l0
   repeat' first
   | (with_reducible exact ih0 _ _ _ _ _)
   | (with_reducible exact ih1 _ _ _ _ _ _ _ _ _)
   | (with_reducible exact hex_Digit.mono _ _)
   | (with_reducible exact LeO.refl _)
   | (with_reducible exact LeO.none _)
   | (with_reducible refine LeO.ite ?_ ?_)
   | (with_reducible refine LeO.bind ?_ (fun _ => ?_))
   | exact ih0 _ _ _ _ _
   | exact ih1 _ _ _ _ _ _ _ _ _
   | exact hex_Digit.mono _ _
   | exact LeO.none _
   | refine LeO.ite ?_ ?_
   | refine LeO.bind ?_ (fun _ => ?_)
  ·intro y0 y1 y2 y3 y4 y5 y6 y7 y8
   unfold hex_UnHex.j1
   repeat' first
   | (with_reducible exact ih0 _ _ _ _ _)
   | (with_reducible exact ih1 _ _ _ _ _ _ _ _ _)
   | (with_reducible exact hex_Digit.mono _ _)
   | (with_reducible exact LeO.refl _)
   | (with_reducible exact LeO.none _)
   | (with_reducible refine LeO.ite ?_ ?_)
   | (with_reducible refine LeO.bind ?_ (fun _ => ?_))
   | exact ih0 _ _ _ _ _
   | exact ih1 _ _ _ _ _ _ _ _ _
   | exact hex_Digit.mono _ _
   | exact LeO.none _
   | refine LeO.ite ?_ ?_
   | refine LeO.bind ?_ (fun _ => ?_)
theorem hex_UnHex.mono : ∀ a0 k, LeO (hex_UnHex.f k a0) (hex_UnHex.f (k + 1) a0) := by
 intro a0 k
 obtain ⟨ih0, ih1⟩ := hex_UnHex.mono_l k
 unfold hex_UnHex.f
 repeat' first
   | (with_reducible exact ih0 _ _ _ _ _)
   | (with_reducible exact ih1 _ _ _ _ _ _ _ _ _)
   | (with_reducible exact hex_Digit.mono _ _)
   | (with_reducible exact LeO.refl _)
   | (with_reducible exact LeO.none _)
   | (with_reducible refine LeO.ite ?_ ?_)
   | (with_reducible refine LeO.bind ?_ (fun _ => ?_))
   | exact ih0 _ _ _ _ _
   | exact ih1 _ _ _ _ _ _ _ _ _
   | exact hex_Digit.mono _ _
   | exact LeO.none _
   | refine LeO.ite ?_ ?_
   | refine LeO.bind ?_ (fun _ => ?_)
set_option maxHeartbeats 8000000 in
set_option maxRecDepth 100000 in
theorem hex_UnHex.calls (k : Nat) (a0 : ByteArray) (r1 : List Int) (r2 : Int) (r3 : Int) (w : World) (h : hex_UnHex.f k a0 = some (r1, r2, r3)) :
  Calls Tryz.prog 69 #[.string a0] w fun e w' => ∃ v0_ : Value, e = .returned (.tuple #[v0_, .int .i64 r2, .int .i64 r3]) ∧ Kd.R (Kd.int .u8) 5 w' w.heap.size (fun _ => True) v0_ r1 ∧ Below w.heap.size w w' := by
 have HB := aM (Below.refl w.heap.size w)
 have H : (hex_UnHex.l0 k a0 ([] : List Int) true (a0.size : Int) 0) = some (r1, r2, r3) := h
 clear h
 have H' := aM H
 clear H
 go_enter Tryz.func69, Tryz.ntmps69
 go_wp2
 go_loopg [5, 6, 12] k (fun kq v5 v6 v12 w' => ∃ (x5_1 : List Int) (x6_1 : Bool) (x12_1 : Int), v6 = .bool x6_1 ∧ v12 = .int .i64 x12_1 ∧ Aside0 (hex_UnHex.l0 kq a0 x5_1 x6_1 (a0.size : Int) x12_1 = some (r1, r2, r3)) ∧ Aside0 (kq ≤ k) ∧ Aside0 (Kd.R (Kd.int .u8) 5 w' w.heap.size (fun _ => True) v5 x5_1) ∧ Aside0 (Below w.heap.size w w'))
 case atStart => exact ⟨(([] : List Int)), (true), (0), vQ, vQ, H', ⟨Nat.le_refl _⟩, ⟨by first | exact Kd.R_nil _ _ _ _ _ | exact Kd.N_nil _ _ _ _ _ | exact Kd.V_nil _ _ _ _ _ | exact Kd.Q_nil _ _ _ _ _ | exact Kd.S_nil _ _ _ _ _⟩, ⟨bQ⟩⟩
 case round =>
  clear H'
  obtain ⟨x5_1, x6_1, x12_1, rfl, rfl, HA, HK1, HO_5, HB⟩ := hrel
  cases gk with
  | zero => exact absurd HA.out (by simp [hex_UnHex.l0])
  | succ k1 =>
   have H := HA.out
   clear HA
   simp only [hex_UnHex.l0] at H
   refine iD H ?_ ?_<;>clear H<;>intro H c2b0
   rotate_left
   ·simp only [Option.some.injEq, Prod.mk.injEq] at H
    obtain ⟨rfl, rfl, rfl⟩ := H
    go_wp2
    go_ret3
    exact ⟨_, eQ, mQ HO_5, bQ⟩
   refine iD H ?_ ?_<;>clear H<;>intro H c3b0
   rotate_left
   ·exact absurd H (by simp)
   refine iD H ?_ ?_<;>clear H<;>intro H c4b0
   rotate_left
   ·exact absurd H (by simp)
   replace H := bS H
   obtain ⟨⟨t118, t119⟩, A6, H⟩ := H
   try dsimp only at H
   have HC7 := aM H
   clear H
   have p5 : 0 ≤ (x12_1 : Int) := of_decide_eq_true hQ
   have q5 : x12_1 < (a0.size : Int) := of_decide_eq_true hQ
   have hx5 := bt_at a0 x12_1
   replace p5 := eq_true p5
   replace q5 := eq_true q5
   go_upto_region 8 with (first | ((with_reducible refine gC 65 ?_); refine gL (some 20) Tryz.func65 #[.int .i64 (wrap64 (bt a0 x12_1))] ?_; (with_reducible refine cB (hex_Digit.calls k1 (wrap64 (bt a0 x12_1)) t118 t119 _ A6.out) ?_); intro w8 hb; replace HO_5 := rK HO_5 hb; replace HB := sB hb; clear hb))
   (try simp only [Act.put, List.setIfInBounds_toArray, List.set_cons_zero, List.set_cons_succ])
   go_cut [33] (fun v33 wc => ∃ (kq : Nat) (x33_6 : Bool), v33 = .bool x33_6 ∧ Aside0 (hex_UnHex.j1 kq a0 x5_1 x6_1 x12_1 t118 t119 (a0.size : Int) x12_1 x33_6 = some (r1, r2, r3)) ∧ Aside0 (kq ≤ k1) ∧ Aside0 (Kd.R (Kd.int .u8) 5 wc w.heap.size (fun _ => True) u5 x5_1) ∧ Aside0 (Below w.heap.size w wc))
   case first =>
    have H := HC7.out
    clear HC7
    by_cases c9 : t119 = true
    ·subst c9
     rw [if_pos rfl] at H
     have H' := aM H
     clear H
     go_wp2
     go_meet
     case rel => exact ⟨_, (false), vQ, H', ⟨by have := HK1.out; first | omega | exact Nat.le_refl _⟩, ⟨mQ HO_5⟩, ⟨bQ⟩⟩
    replace c9 := Bool.eq_false_iff.mpr c9
    subst c9
    rw [if_neg (show ¬ (false = true) by decide)] at H
    replace H := bS H
    obtain ⟨t120, A11, H⟩ := H
    try dsimp only at H
    have H' := aM H
    clear H
    have p10 : 0 ≤ (x12_1 : Int) := of_decide_eq_true hQ
    have q10 : x12_1 < (a0.size : Int) := of_decide_eq_true hQ
    have hx10 := bt_at a0 x12_1
    replace p10 := eq_true p10
    replace q10 := eq_true q10
    go_wp2_with (first | (go_at_call 91; (with_reducible refine (hex_White.calls (wrap64 (bt a0 x12_1)) t120 _ A11.out).mono ?_); rintro e w12 ⟨rfl, hb⟩; replace HO_5 := rK HO_5 hb; replace HB := sB hb; clear hb))
    go_meet
    case rel => exact ⟨_, (t120), vQ, H', ⟨by have := HK1.out; first | omega | exact Nat.le_refl _⟩, ⟨mQ HO_5⟩, ⟨bQ⟩⟩
   case rest =>
    clear HC7
    try clear p1
    try clear q1
    try clear hx1
    try clear c2
    try clear c2b0
    try clear p2
    try clear c3
    try clear c3b0
    try clear c4
    try clear c4b0
    try clear p5
    try clear q5
    try clear hx5
    try clear c6
    try clear p6
    try clear c9
    try clear p10
    try clear q10
    try clear hx10
    try clear p10
    try clear p5
    try clear q10
    try clear q5
    obtain ⟨kq, x33_6, rfl, HA, HJ6, HO_5, HB⟩ := hcut
    cases kq with
    | zero => exact absurd HA.out (by simp [hex_UnHex.j1])
    | succ kj6 =>
     have H := HA.out
     clear HA
     simp only [hex_UnHex.j1] at H
     by_cases c13 : x33_6 = true
     ·subst c13
      rw [if_pos rfl] at H
      have H' := aM H
      clear H
      go_wp2
      go_roundg kj6
      case measure => have := HK1.out; have := HJ6.out; omega
      case rel => exact ⟨(x5_1), (x6_1), (wrap64 (x12_1 + 1)), vQ, vQ, H', ⟨by have := HK1.out; have := HJ6.out; omega⟩, ⟨mQ HO_5⟩, ⟨bQ⟩⟩
     replace c13 := Bool.eq_false_iff.mpr c13
     subst c13
     rw [if_neg (show ¬ (false = true) by decide)] at H
     by_cases c14 : t119 = true
     rotate_left
     ·replace c14 := Bool.eq_false_iff.mpr c14
      subst c14
      rw [if_neg (show ¬ (false = true) by decide)] at H
      simp only [Option.some.injEq, Prod.mk.injEq] at H
      obtain ⟨rfl, rfl, rfl⟩ := H
      go_wp2
      go_ret3
      exact ⟨_, eQ, by first | exact Kd.R_nil _ _ _ _ _ | exact Kd.N_nil _ _ _ _ _ | exact Kd.V_nil _ _ _ _ _ | exact Kd.Q_nil _ _ _ _ _ | exact Kd.S_nil _ _ _ _ _, bQ⟩
     subst c14
     rw [if_pos rfl] at H
     by_cases c15 : x6_1 = true
     ·subst c15
      rw [if_pos rfl] at H
      refine iNc H ?_ ?_<;>clear H<;>intro H c16
      rotate_left
      ·exact absurd H (by simp)
      have LMc16 := aM c16
      clear c16
      obtain ⟨y121, hy121⟩ : ∃ y_ : List Int, y_ = (x5_1 ++ [(wrap64 (t118 * 16)) % 256]) := ⟨_, rfl⟩
      replace H : (hex_UnHex.l0 kj6 a0 y121 (!true) (a0.size : Int) (wrap64 (x12_1 + 1))) = some (r1, r2, r3) := by first | (rw [hy121]; with_reducible exact H) | (have H2_ := (Option.bind_some _ _).symm.trans H; rw [hy121]; with_reducible exact H2_) | (have H2_ := (Option.bind_some _ _).symm.trans H; with_reducible exact H2_) | with_reducible exact H | (rw [hy121]; exact H) | exact H
      have Ny121 := aM hy121
      clear hy121
      have H' := aM H
      clear H
      go_wp2_with (first | ((with_reducible refine gate_builtin (b := .append) (xs := #[.tmp 49, .tmp 53]) rfl ?_); at_builtin; refine Kd.R_append (Kd.int .u8) (w0 := w) w.heap.size rfl (.tmp 49) (.tmp 53) 52 5 (.int .u8 0) 1 rfl Tryz.underlying52 info5 rfl (by decide) (by omega) u5 x5_1 ((wrap64 (t118 * 16)) % 256) [.int .u8 ((wrap64 (t118 * 16)) % 256)] (fun _ => True) (fun _ => False) rfl rfl ?aP (fun _ hk => hk.elim) ?aF ?aO ?aB ?aS ?aL ?_; (case aP => exact rfl); (case aB => exact bQ); (case aF => exact (fun _ _ => trivial)); (case aO => exact (mQ HO_5)); (case aS => exact (below_size bQ)); (case aL => have := LMc16.out; omega); intro v122 w17 ho hb hg hat; rw [← Ny121.out] at ho; have n0_ := aM hb; have n1_ := aM ho; clear HB; clear HO_5; have HB := n0_; have HO123 := n1_; clear n0_ n1_; clear ho hb hg hat))
      go_roundg kj6
      case measure => have := HK1.out; have := HJ6.out; omega
      case rel => exact ⟨(y121), (!true), (wrap64 (x12_1 + 1)), vQ, vQ, H', ⟨by have := HK1.out; have := HJ6.out; omega⟩, ⟨mQ HO123⟩, ⟨bQ⟩⟩
     replace c15 := Bool.eq_false_iff.mpr c15
     subst c15
     rw [if_neg (show ¬ (false = true) by decide)] at H
     obtain ⟨ji18, hji18⟩ : ∃ j_ : Int, (wrap64 ((x5_1.length : Int) - 1)) = j_ := ⟨_, rfl⟩
     replace H : (if 0 ≤ (ji18) then (if (ji18) < (x5_1.length : Int) then (hex_UnHex.l0 kj6 a0 (x5_1.set ((ji18) : Int).toNat (Go.bits .or .u8 (rd x5_1 (ji18)) ((t118) % 256))) (!false) (a0.size : Int) (wrap64 (x12_1 + 1))) else (none)) else (none)) = some (r1, r2, r3) := by first | (rw [hji18] at H; exact H) | (simp only [hji18] at H ⊢; exact H)
     have hji18w : (IntKind.i64.wrap ((x5_1.length : Int) - 1)) = ji18 := (i64_w _).trans hji18
     refine iD H ?_ ?_<;>clear H<;>intro H c19b0
     rotate_left
     ·exact absurd H (by simp)
     refine iD H ?_ ?_<;>clear H<;>intro H c20b0
     rotate_left
     ·exact absurd H (by simp)
     obtain ⟨y125, hy125⟩ : ∃ y_ : List Int, y_ = (x5_1.set ((ji18) : Int).toNat (Go.bits .or .u8 (rd x5_1 (ji18)) ((t118) % 256))) := ⟨_, rfl⟩
     replace H : (hex_UnHex.l0 kj6 a0 y125 (!false) (a0.size : Int) (wrap64 (x12_1 + 1))) = some (r1, r2, r3) := by first | (rw [hy125]; with_reducible exact H) | (have H2_ := (Option.bind_some _ _).symm.trans H; rw [hy125]; with_reducible exact H2_) | (have H2_ := (Option.bind_some _ _).symm.trans H; with_reducible exact H2_) | with_reducible exact H | (rw [hy125]; exact H) | exact H
     have Ny125 := aM hy125
     clear hy125
     have H' := aM H
     clear H
     obtain ⟨Ao22, co22, eo22⟩ := Kd.R_slice HO_5.out
     subst eo22
     have p124 : 0 ≤ ((ji18) : Int) := of_decide_eq_true hQ
     have q124 : (ji18) < (x5_1.length : Int) := of_decide_eq_true hQ
     obtain ⟨ad124, e124, hx124_0⟩ := Kd.at_int (Kd.R_reads' HO_5.out).2.2 (ji18) p124 q124
     cases e124
     replace p124 := eq_true p124
     replace q124 := eq_true q124
     have p21 : 0 ≤ ((ji18) : Int) := of_decide_eq_true hQ
     have q21 : ((ji18) : Int) < ((x5_1.length : Int) : Int) := of_decide_eq_true hQ
     obtain ⟨go21, co21, eo21, gb21, gl21, cl21, HG21⟩ := Kd.R_form HO_5.out (by omega)
     (first | cases eo21 | (injection eo21 with ea_ en_ ec_; (first | subst ea_ | (injection ea_ with ea_; subst ea_)); subst ec_; clear en_))
     have GB21 := aM gb21
     have GG21 := aM HG21
     clear gb21 gl21 HG21
     (first | simp only [add_plain] at hx124_0 | skip)
     obtain ⟨hx21_0, hf21_0⟩ := Kd.R_celln 0 HO_5.out ((ji18) : Int) p21 q21
     replace p21 := eq_true p21
     replace q21 := eq_true q21
     have HP23 := Kd.R_putg HO_5.out ((ji18) : Int) (Go.bits .or .u8 (rd x5_1 (ji18)) ((t118) % 256))
     go_wp2_with (first | ((with_reducible refine gate_store (t := 5) (p := 32) rfl ?_); refine store_event (t := 5) (p := 32) (v := ?vo_w24) (w1 := (wc.setCell ⟨go21, ((ji18) : Int).toNat, none⟩ (.int .u8 (Go.bits .or .u8 (rd x5_1 (ji18)) ((t118) % 256))))) ?hg ?ho ?hn ?hr ?_; (case ho => rfl); (case hg => rfl); (case hn => rfl); (case hr => first | (go_simp; done) | (go_simp; rfl)); intro w24 hw; have hg : wc.grownBy w24 (some go21) := (by rw [hw]; exact HP23.2); have hp_ : Kd.R (Kd.int .u8) 5 w24 w.heap.size (fun _ => True) (.slice (some ⟨go21, 0, none⟩) x5_1.length co22) y125 := (by rw [hw, Ny125.out]; exact HP23.1); clear HP23; replace HO_5 := aM (hp_); replace HB := aM ((by rw [hw]; exact below_set (HB.out) GB21.out : Below w.heap.size w w24)); clear hg hw hp_))
     go_roundg kj6
     case measure => have := HK1.out; have := HJ6.out; omega
     case rel => exact ⟨(y125), (!false), (wrap64 (x12_1 + 1)), vQ, vQ, H', ⟨by have := HK1.out; have := HJ6.out; omega⟩, ⟨mQ HO_5⟩, ⟨bQ⟩⟩
end Go.Proofs.YtjplnhdplpiogaaGreatDoor.M
end
section
namespace Go.Proofs.YtjplnhdplpiogaaGreatDoor.M
open Go.RowKit Go.Proofs.YtjplnhdplpiogaaGreatDoorW.PrintWords Go.Proofs.YtjplnhdplpiogaaGreatDoorW.PrintLast Go.Proofs.YtjplnhdplpiogaaGreatDoorW.PrintMore
attribute [local go_sem] max2_int min2_int max_two min_two max_three min_three max_four min_four
set_option linter.unusedVariables false
set_option linter.unusedSimpArgs false
def tok_source_hexed.f (k : Nat) (a0 : ByteArray) (a1 : Int) : Option (Int × Int × Int × ByteArray × Int × Int) := (tok_source_from.f a0 (wrap64 (a1 + 1))).bind fun t127 => ((strings_Cut.f t127 (⟨#[62]⟩ : ByteArray)).bind fun bt128 => (if bt128.2.2 = true then ((hex_UnHex.f k bt128.1).bind fun bt131 => (if bt131.2.2 = 0 then (some (4, a1, 0, strOfNums bt131.1, wrap64 ((wrap64 (a1 + (bt128.1.size : Int))) + 2), 0)) else (some (0, 0, 0, (⟨#[]⟩ : ByteArray), wrap64 ((wrap64 (a1 + 1)) + bt131.2.1), bt131.2.2)))) else (some (0, 0, 0, (⟨#[]⟩ : ByteArray), (a0.size : Int), 2))))
theorem tok_source_hexed.mono : ∀ a0 a1 k, LeO (tok_source_hexed.f k a0 a1) (tok_source_hexed.f (k + 1) a0 a1) := by
 intro a0 a1 k
 unfold tok_source_hexed.f
 repeat' first
   | (with_reducible exact hex_UnHex.mono _ _)
   | (with_reducible exact LeO.refl _)
   | (with_reducible exact LeO.none _)
   | (with_reducible refine LeO.ite ?_ ?_)
   | (with_reducible refine LeO.bind ?_ (fun _ => ?_))
   | exact hex_UnHex.mono _ _
   | exact LeO.none _
   | refine LeO.ite ?_ ?_
   | refine LeO.bind ?_ (fun _ => ?_)
set_option maxHeartbeats 8000000 in
set_option maxRecDepth 100000 in
theorem tok_source_hexed.calls (k : Nat) (a0 : ByteArray) (a1 : Int) (r1 : Int) (r2 : Int) (r3 : Int) (r4 : ByteArray) (r5 : Int) (r6 : Int) (w : World) (hG : GW w) (h : tok_source_hexed.f k a0 a1 = some (r1, r2, r3, r4, r5, r6)) :
  Calls Tryz.prog 43 #[.string a0, .int .i64 a1] w fun e w' => e = .returned (.tuple #[.agg #[.int .i64 r1, .int .i64 r2, .int .i64 r3, .string r4], .int .i64 r5, .int .i64 r6]) ∧ Below w.heap.size w w' := by
 have hu40 := Tryz.underlying40
 have HG := Aside0.mk hG
 clear hG
 have HB := Aside0.mk (Below.refl w.heap.size w)
 have H : ((tok_source_from.f a0 (wrap64 (a1 + 1))).bind fun t127 => ((strings_Cut.f t127 (⟨#[62]⟩ : ByteArray)).bind fun bt128 => (if bt128.2.2 = true then ((hex_UnHex.f k bt128.1).bind fun bt131 => (if bt131.2.2 = 0 then (some (4, a1, 0, strOfNums bt131.1, wrap64 ((wrap64 (a1 + (bt128.1.size : Int))) + 2), 0)) else (some (0, 0, 0, (⟨#[]⟩ : ByteArray), wrap64 ((wrap64 (a1 + 1)) + bt131.2.1), bt131.2.2)))) else (some (0, 0, 0, (⟨#[]⟩ : ByteArray), (a0.size : Int), 2))))) = some (r1, r2, r3, r4, r5, r6) := h
 clear h
 replace H := Option.bind_eq_some_iff.mp H
 obtain ⟨t127, A30, H⟩ := H
 replace H : ((strings_Cut.f t127 (⟨#[62]⟩ : ByteArray)).bind fun bt128 => (if bt128.2.2 = true then ((hex_UnHex.f k bt128.1).bind fun bt131 => (if bt131.2.2 = 0 then (some (4, a1, 0, strOfNums bt131.1, wrap64 ((wrap64 (a1 + (bt128.1.size : Int))) + 2), 0)) else (some (0, 0, 0, (⟨#[]⟩ : ByteArray), wrap64 ((wrap64 (a1 + 1)) + bt131.2.1), bt131.2.2)))) else (some (0, 0, 0, (⟨#[]⟩ : ByteArray), (a0.size : Int), 2)))) = some (r1, r2, r3, r4, r5, r6) := H
 have A3 := Aside0.mk A30
 clear A30
 replace H := Option.bind_eq_some_iff.mp H
 obtain ⟨⟨t128, t129, t130⟩, A40, H⟩ := H
 replace H : (if t130 = true then ((hex_UnHex.f k t128).bind fun bt131 => (if bt131.2.2 = 0 then (some (4, a1, 0, strOfNums bt131.1, wrap64 ((wrap64 (a1 + (t128.size : Int))) + 2), 0)) else (some (0, 0, 0, (⟨#[]⟩ : ByteArray), wrap64 ((wrap64 (a1 + 1)) + bt131.2.1), bt131.2.2)))) else (some (0, 0, 0, (⟨#[]⟩ : ByteArray), (a0.size : Int), 2))) = some (r1, r2, r3, r4, r5, r6) := H
 have A4 := Aside0.mk A40
 clear A40
 by_cases c5 : t130 = true
 ·subst c5
  have H1 : ((hex_UnHex.f k t128).bind fun bt131 => (if bt131.2.2 = 0 then (some (4, a1, 0, strOfNums bt131.1, wrap64 ((wrap64 (a1 + (t128.size : Int))) + 2), 0)) else (some (0, 0, 0, (⟨#[]⟩ : ByteArray), wrap64 ((wrap64 (a1 + 1)) + bt131.2.1), bt131.2.2)))) = some (r1, r2, r3, r4, r5, r6) := by rw [if_pos rfl] at H; exact H
  clear H
  have H := H1
  clear H1
  replace H := Option.bind_eq_some_iff.mp H
  obtain ⟨⟨t131, t132, t133⟩, A60, H⟩ := H
  replace H : (if t133 = 0 then (some (4, a1, 0, strOfNums t131, wrap64 ((wrap64 (a1 + (t128.size : Int))) + 2), 0)) else (some (0, 0, 0, (⟨#[]⟩ : ByteArray), wrap64 ((wrap64 (a1 + 1)) + t132), t133))) = some (r1, r2, r3, r4, r5, r6) := H
  have A6 := Aside0.mk A60
  clear A60
  by_cases c7 : t133 = 0
  ·rw [if_pos c7] at H
   have c7b0 : (t133 == 0) = true := beq_iff_eq.mpr c7
   have c7b1 : (t133 != 0) = false := bne_eq_false_iff_eq.mpr c7
   clear c7
   simp only [Option.some.injEq, Prod.mk.injEq] at H
   obtain ⟨rfl, rfl, rfl, rfl, rfl, rfl⟩ := H
   go_enter Tryz.func43, Tryz.ntmps43
   go_wp2_with (first | ((with_reducible refine gate_dst (N := 4) rfl ?_); refine box_event ?hg (N := 4) ?hd (cs := #[.int .i64 0, .int .i64 0, .int .i64 0, .string (⟨#[]⟩ : ByteArray)]) (t := 40) ?hr ?_; (case hd => rfl); (case hg => rfl); (case hr => first | (go_simp; done) | (go_simp; rfl)); intro gb126 hg w8 hbox hb; have n0_ := Aside0.mk (below_step (by repeat (first | (with_reducible first | exact HB.out | apply below_alloc | apply pw_below_drewN | apply below_drew1) | exact HB.out)) hb); have n1_ := Aside0.mk (hbox); have n2_ := Aside0.mk ((by rw [hg]; exact (below_size (by repeat (first | (with_reducible first | exact HB.out | apply below_alloc | apply pw_below_drewN | apply below_drew1) | exact HB.out))) : w.heap.size ≤ gb126)); have n3_ := Aside0.mk ((by rw [hg]; exact (below_size (by repeat (first | (with_reducible first | exact HB.out | apply below_alloc | apply pw_below_drewN | apply below_drew1) | exact HB.out))) : w.heap.size ≤ gb126)); clear HB; have HB := n0_; have BK126 := n1_; have GW126 := n2_; have GE126 := n3_; clear n0_ n1_ n2_ n3_; clear hb hbox hg) | ((with_reducible refine gate_callee (f := 64) rfl ?_); refine goesL_ (some 17) rfl rfl Tryz.func64 (by kernel_rfl) rfl #[.string a0, .int .i64 (wrap64 (a1 + 1))] rfl (by (try simp only [List.map_toArray, List.map_cons, List.map_nil]); first | done | rfl | (simp only [List.length_drop, List.length_take]; rfl)) ?_; (with_reducible refine (tok_source_from.calls a0 (wrap64 (a1 + 1)) t127 _ A3.out).mono ?_); rintro e w9 ⟨rfl, hb⟩; refine ⟨_, rfl, ?_⟩; have n0_ := Aside0.mk (blk_below (g := gb126) (o := .cells #[.int .i64 0, .int .i64 0, .int .i64 0, .string (⟨#[]⟩ : ByteArray)] 40 (0, 0)) (by (with_reducible repeat (first | refine blk_drewN ?_ _ | refine blk_drew ?_ | refine blk_alloc ?_ _)); exact BK126.out) hb); have n1_ := Aside0.mk (below_step (by repeat (first | (with_reducible first | exact HB.out | apply below_alloc | apply pw_below_drewN | apply below_drew1 | refine below_set ?_ GE126.out) | exact HB.out)) hb); clear BK126; clear HB; have BK126 := n0_; have HB := n1_; clear n0_ n1_; (try clear hb); (try clear hb2); (try clear hk); (try clear hi)) | ((with_reducible refine gate_callee (f := 68) rfl ?_); refine goesL_ (some 18) rfl rfl Tryz.func68 (by kernel_rfl) rfl #[.string t127, .string (⟨#[62]⟩ : ByteArray)] rfl (by (try simp only [List.map_toArray, List.map_cons, List.map_nil]); first | done | rfl | (simp only [List.length_drop, List.length_take]; rfl)) ?_; (with_reducible refine (strings_Cut.calls t127 (⟨#[62]⟩ : ByteArray) t128 t129 true _ ?side1 A4.out).mono ?_); (case side1 => exact GW.below (by repeat (first | (with_reducible first | exact HB.out | apply below_alloc | apply pw_below_drewN | apply below_drew1 | refine below_set ?_ GE126.out) | exact HB.out)) HG.out); rintro e w10 ⟨rfl, hb⟩; refine ⟨_, rfl, ?_⟩; have n0_ := Aside0.mk (blk_below (g := gb126) (o := .cells #[.int .i64 0, .int .i64 0, .int .i64 0, .string (⟨#[]⟩ : ByteArray)] 40 (0, 0)) (by (with_reducible repeat (first | refine blk_drewN ?_ _ | refine blk_drew ?_ | refine blk_alloc ?_ _)); exact BK126.out) hb); have n1_ := Aside0.mk (below_step (by repeat (first | (with_reducible first | exact HB.out | apply below_alloc | apply pw_below_drewN | apply below_drew1 | refine below_set ?_ GE126.out) | exact HB.out)) hb); clear BK126; clear HB; have BK126 := n0_; have HB := n1_; clear n0_ n1_; (try clear hb); (try clear hb2); (try clear hk); (try clear hi)) | ((with_reducible refine gate_callee (f := 69) rfl ?_); refine goesL_ (some 29) rfl rfl Tryz.func69 (by kernel_rfl) rfl #[.string t128] rfl (by (try simp only [List.map_toArray, List.map_cons, List.map_nil]); first | done | rfl | (simp only [List.length_drop, List.length_take]; rfl)) ?_; (with_reducible refine (hex_UnHex.calls k t128 t131 t132 t133 _ A6.out).mono ?_); rintro e w11 ⟨v134, rfl, ho0, hb⟩; refine ⟨_, rfl, ?_⟩; have n0_ := Aside0.mk (Kd.R_lower ho0 (below_size (by repeat (first | (with_reducible first | exact HB.out | apply below_alloc | apply pw_below_drewN | apply below_drew1 | refine below_set ?_ GE126.out) | exact HB.out)))); have n1_ := Aside0.mk (blk_below (g := gb126) (o := .cells #[.int .i64 0, .int .i64 0, .int .i64 0, .string (⟨#[]⟩ : ByteArray)] 40 (0, 0)) (by (with_reducible repeat (first | refine blk_drewN ?_ _ | refine blk_drew ?_ | refine blk_alloc ?_ _)); exact BK126.out) hb); have n2_ := Aside0.mk (below_step (by repeat (first | (with_reducible first | exact HB.out | apply below_alloc | apply pw_below_drewN | apply below_drew1 | refine below_set ?_ GE126.out) | exact HB.out)) hb); clear BK126; clear HB; have HO135 := n0_; have BK126 := n1_; have HB := n2_; clear n0_ n1_ n2_; (try clear hb); (try clear hb2); (try clear hk); (try clear hi); (try clear ho0); have hcv12 := own_string (P := Tryz.prog) Tryz.underlying52 Tryz.underlying5 Tryz.underlying9 (Kd.own_of_R HO135.out); have hcz13_0 : w11.cell? ⟨gb126, 0, none⟩ = some (.int .i64 0) := (blk_cell BK126.out 0).trans rfl; have hcz13_1 : w11.cell? ⟨gb126, 1, none⟩ = some (.int .i64 0) := (blk_cell BK126.out 1).trans rfl; have hcz13_2 : w11.cell? ⟨gb126, 2, none⟩ = some (.int .i64 0) := (blk_cell BK126.out 2).trans rfl; have hcz13_3 : w11.cell? ⟨gb126, 3, none⟩ = some (.string (⟨#[]⟩ : ByteArray)) := (blk_cell BK126.out 3).trans rfl; have hfz13_0 := blk_frozen BK126.out 0; have hfz13_1 := blk_frozen BK126.out 1; have hfz13_2 := blk_frozen BK126.out 2; have hfz13_3 := blk_frozen BK126.out 3))
   refine bodyPost_ret (results_ctt rfl _ _ gb126 40 #[.int .i64 4, .int .i64 a1, .int .i64 0, .string (strOfNums t131)] (0, 0) _ rfl (by (with_reducible repeat (first | refine blk_drewN ?_ _ | refine blk_drew ?_ | refine blk_alloc ?_ _)); refine blk_put (cs := #[.int .i64 4, .int .i64 a1, .int .i64 0, .string (⟨#[]⟩ : ByteArray)]) ?_ 3 _ rfl; (with_reducible repeat (first | refine blk_drewN ?_ _ | refine blk_drew ?_ | refine blk_alloc ?_ _)); refine blk_put (cs := #[.int .i64 4, .int .i64 a1, .int .i64 0, .string (⟨#[]⟩ : ByteArray)]) ?_ 2 _ rfl; (with_reducible repeat (first | refine blk_drewN ?_ _ | refine blk_drew ?_ | refine blk_alloc ?_ _)); refine blk_put (cs := #[.int .i64 4, .int .i64 0, .int .i64 0, .string (⟨#[]⟩ : ByteArray)]) ?_ 1 _ rfl; (with_reducible repeat (first | refine blk_drewN ?_ _ | refine blk_drew ?_ | refine blk_alloc ?_ _)); refine blk_put (cs := #[.int .i64 0, .int .i64 0, .int .i64 0, .string (⟨#[]⟩ : ByteArray)]) ?_ 0 _ rfl; (with_reducible repeat (first | refine blk_drewN ?_ _ | refine blk_drew ?_ | refine blk_alloc ?_ _)); exact BK126.out) Tryz.underlying40 rfl (by kernel_rfl)) rfl ?_
   exact ⟨by first | rfl | (simp [errW_none, errW_some] <;> rfl) | (simp [*, errW_none, errW_some] <;> rfl), by repeat (first | (with_reducible first | exact HB.out | apply below_alloc | apply pw_below_drewN | apply below_drew1 | refine below_set ?_ GE126.out) | exact HB.out)⟩
  ·rw [if_neg c7] at H
   have c7b0 : (t133 == 0) = false := beq_eq_false_iff_ne.mpr c7
   have c7b1 : (t133 != 0) = true := bne_iff_ne.mpr c7
   simp only [Option.some.injEq, Prod.mk.injEq] at H
   obtain ⟨rfl, rfl, rfl, rfl, rfl, rfl⟩ := H
   go_enter Tryz.func43, Tryz.ntmps43
   go_wp2_with (first | ((with_reducible refine gate_dst (N := 4) rfl ?_); refine box_event ?hg (N := 4) ?hd (cs := #[.int .i64 0, .int .i64 0, .int .i64 0, .string (⟨#[]⟩ : ByteArray)]) (t := 40) ?hr ?_; (case hd => rfl); (case hg => rfl); (case hr => first | (go_simp; done) | (go_simp; rfl)); intro gb126 hg w14 hbox hb; have n0_ := Aside0.mk (below_step (by repeat (first | (with_reducible first | exact HB.out | apply below_alloc | apply pw_below_drewN | apply below_drew1) | exact HB.out)) hb); have n1_ := Aside0.mk (hbox); have n2_ := Aside0.mk ((by rw [hg]; exact (below_size (by repeat (first | (with_reducible first | exact HB.out | apply below_alloc | apply pw_below_drewN | apply below_drew1) | exact HB.out))) : w.heap.size ≤ gb126)); have n3_ := Aside0.mk ((by rw [hg]; exact (below_size (by repeat (first | (with_reducible first | exact HB.out | apply below_alloc | apply pw_below_drewN | apply below_drew1) | exact HB.out))) : w.heap.size ≤ gb126)); clear HB; have HB := n0_; have BK126 := n1_; have GW126 := n2_; have GE126 := n3_; clear n0_ n1_ n2_ n3_; clear hb hbox hg) | ((with_reducible refine gate_callee (f := 64) rfl ?_); refine goesL_ (some 17) rfl rfl Tryz.func64 (by kernel_rfl) rfl #[.string a0, .int .i64 (wrap64 (a1 + 1))] rfl (by (try simp only [List.map_toArray, List.map_cons, List.map_nil]); first | done | rfl | (simp only [List.length_drop, List.length_take]; rfl)) ?_; (with_reducible refine (tok_source_from.calls a0 (wrap64 (a1 + 1)) t127 _ A3.out).mono ?_); rintro e w15 ⟨rfl, hb⟩; refine ⟨_, rfl, ?_⟩; have n0_ := Aside0.mk (blk_below (g := gb126) (o := .cells #[.int .i64 0, .int .i64 0, .int .i64 0, .string (⟨#[]⟩ : ByteArray)] 40 (0, 0)) (by (with_reducible repeat (first | refine blk_drewN ?_ _ | refine blk_drew ?_ | refine blk_alloc ?_ _)); exact BK126.out) hb); have n1_ := Aside0.mk (below_step (by repeat (first | (with_reducible first | exact HB.out | apply below_alloc | apply pw_below_drewN | apply below_drew1 | refine below_set ?_ GE126.out) | exact HB.out)) hb); clear BK126; clear HB; have BK126 := n0_; have HB := n1_; clear n0_ n1_; (try clear hb); (try clear hb2); (try clear hk); (try clear hi)) | ((with_reducible refine gate_callee (f := 68) rfl ?_); refine goesL_ (some 18) rfl rfl Tryz.func68 (by kernel_rfl) rfl #[.string t127, .string (⟨#[62]⟩ : ByteArray)] rfl (by (try simp only [List.map_toArray, List.map_cons, List.map_nil]); first | done | rfl | (simp only [List.length_drop, List.length_take]; rfl)) ?_; (with_reducible refine (strings_Cut.calls t127 (⟨#[62]⟩ : ByteArray) t128 t129 true _ ?side1 A4.out).mono ?_); (case side1 => exact GW.below (by repeat (first | (with_reducible first | exact HB.out | apply below_alloc | apply pw_below_drewN | apply below_drew1 | refine below_set ?_ GE126.out) | exact HB.out)) HG.out); rintro e w16 ⟨rfl, hb⟩; refine ⟨_, rfl, ?_⟩; have n0_ := Aside0.mk (blk_below (g := gb126) (o := .cells #[.int .i64 0, .int .i64 0, .int .i64 0, .string (⟨#[]⟩ : ByteArray)] 40 (0, 0)) (by (with_reducible repeat (first | refine blk_drewN ?_ _ | refine blk_drew ?_ | refine blk_alloc ?_ _)); exact BK126.out) hb); have n1_ := Aside0.mk (below_step (by repeat (first | (with_reducible first | exact HB.out | apply below_alloc | apply pw_below_drewN | apply below_drew1 | refine below_set ?_ GE126.out) | exact HB.out)) hb); clear BK126; clear HB; have BK126 := n0_; have HB := n1_; clear n0_ n1_; (try clear hb); (try clear hb2); (try clear hk); (try clear hi)) | ((with_reducible refine gate_callee (f := 69) rfl ?_); refine goesL_ (some 29) rfl rfl Tryz.func69 (by kernel_rfl) rfl #[.string t128] rfl (by (try simp only [List.map_toArray, List.map_cons, List.map_nil]); first | done | rfl | (simp only [List.length_drop, List.length_take]; rfl)) ?_; (with_reducible refine (hex_UnHex.calls k t128 t131 t132 t133 _ A6.out).mono ?_); rintro e w17 ⟨v134, rfl, ho0, hb⟩; refine ⟨_, rfl, ?_⟩; have n0_ := Aside0.mk (Kd.R_lower ho0 (below_size (by repeat (first | (with_reducible first | exact HB.out | apply below_alloc | apply pw_below_drewN | apply below_drew1 | refine below_set ?_ GE126.out) | exact HB.out)))); have n1_ := Aside0.mk (blk_below (g := gb126) (o := .cells #[.int .i64 0, .int .i64 0, .int .i64 0, .string (⟨#[]⟩ : ByteArray)] 40 (0, 0)) (by (with_reducible repeat (first | refine blk_drewN ?_ _ | refine blk_drew ?_ | refine blk_alloc ?_ _)); exact BK126.out) hb); have n2_ := Aside0.mk (below_step (by repeat (first | (with_reducible first | exact HB.out | apply below_alloc | apply pw_below_drewN | apply below_drew1 | refine below_set ?_ GE126.out) | exact HB.out)) hb); clear BK126; clear HB; have HO135 := n0_; have BK126 := n1_; have HB := n2_; clear n0_ n1_ n2_; (try clear hb); (try clear hb2); (try clear hk); (try clear hi); (try clear ho0); have hcz18_0 : w17.cell? ⟨gb126, 0, none⟩ = some (.int .i64 0) := (blk_cell BK126.out 0).trans rfl; have hcz18_1 : w17.cell? ⟨gb126, 1, none⟩ = some (.int .i64 0) := (blk_cell BK126.out 1).trans rfl; have hcz18_2 : w17.cell? ⟨gb126, 2, none⟩ = some (.int .i64 0) := (blk_cell BK126.out 2).trans rfl; have hcz18_3 : w17.cell? ⟨gb126, 3, none⟩ = some (.string (⟨#[]⟩ : ByteArray)) := (blk_cell BK126.out 3).trans rfl; have hfz18_0 := blk_frozen BK126.out 0; have hfz18_1 := blk_frozen BK126.out 1; have hfz18_2 := blk_frozen BK126.out 2; have hfz18_3 := blk_frozen BK126.out 3))
   refine bodyPost_ret (results_ctt rfl _ _ gb126 40 #[.int .i64 0, .int .i64 0, .int .i64 0, .string (⟨#[]⟩ : ByteArray)] (0, 0) _ rfl (by (with_reducible repeat (first | refine blk_drewN ?_ _ | refine blk_drew ?_ | refine blk_alloc ?_ _)); refine blk_put (cs := #[.int .i64 0, .int .i64 0, .int .i64 0, .string (⟨#[]⟩ : ByteArray)]) ?_ 3 _ rfl; (with_reducible repeat (first | refine blk_drewN ?_ _ | refine blk_drew ?_ | refine blk_alloc ?_ _)); refine blk_put (cs := #[.int .i64 0, .int .i64 0, .int .i64 0, .string (⟨#[]⟩ : ByteArray)]) ?_ 2 _ rfl; (with_reducible repeat (first | refine blk_drewN ?_ _ | refine blk_drew ?_ | refine blk_alloc ?_ _)); refine blk_put (cs := #[.int .i64 0, .int .i64 0, .int .i64 0, .string (⟨#[]⟩ : ByteArray)]) ?_ 1 _ rfl; (with_reducible repeat (first | refine blk_drewN ?_ _ | refine blk_drew ?_ | refine blk_alloc ?_ _)); refine blk_put (cs := #[.int .i64 0, .int .i64 0, .int .i64 0, .string (⟨#[]⟩ : ByteArray)]) ?_ 0 _ rfl; (with_reducible repeat (first | refine blk_drewN ?_ _ | refine blk_drew ?_ | refine blk_alloc ?_ _)); exact BK126.out) Tryz.underlying40 rfl (by kernel_rfl)) rfl ?_
   exact ⟨by first | rfl | (simp [errW_none, errW_some] <;> rfl) | (simp [*, errW_none, errW_some] <;> rfl), by repeat (first | (with_reducible first | exact HB.out | apply below_alloc | apply pw_below_drewN | apply below_drew1 | refine below_set ?_ GE126.out) | exact HB.out)⟩
 ·replace c5 := Bool.eq_false_iff.mpr c5
  subst c5
  have H1 : (some (0, 0, 0, (⟨#[]⟩ : ByteArray), (a0.size : Int), 2)) = some (r1, r2, r3, r4, r5, r6) := by rw [if_neg (show ¬ (false = true) by decide)] at H; exact H
  clear H
  have H := H1
  clear H1
  simp only [Option.some.injEq, Prod.mk.injEq] at H
  obtain ⟨rfl, rfl, rfl, rfl, rfl, rfl⟩ := H
  go_enter Tryz.func43, Tryz.ntmps43
  go_wp2_with (first | ((with_reducible refine gate_dst (N := 4) rfl ?_); refine box_event ?hg (N := 4) ?hd (cs := #[.int .i64 0, .int .i64 0, .int .i64 0, .string (⟨#[]⟩ : ByteArray)]) (t := 40) ?hr ?_; (case hd => rfl); (case hg => rfl); (case hr => first | (go_simp; done) | (go_simp; rfl)); intro gb126 hg w19 hbox hb; have n0_ := Aside0.mk (below_step (by repeat (first | (with_reducible first | exact HB.out | apply below_alloc | apply pw_below_drewN | apply below_drew1) | exact HB.out)) hb); have n1_ := Aside0.mk (hbox); have n2_ := Aside0.mk ((by rw [hg]; exact (below_size (by repeat (first | (with_reducible first | exact HB.out | apply below_alloc | apply pw_below_drewN | apply below_drew1) | exact HB.out))) : w.heap.size ≤ gb126)); have n3_ := Aside0.mk ((by rw [hg]; exact (below_size (by repeat (first | (with_reducible first | exact HB.out | apply below_alloc | apply pw_below_drewN | apply below_drew1) | exact HB.out))) : w.heap.size ≤ gb126)); clear HB; have HB := n0_; have BK126 := n1_; have GW126 := n2_; have GE126 := n3_; clear n0_ n1_ n2_ n3_; clear hb hbox hg) | ((with_reducible refine gate_callee (f := 64) rfl ?_); refine goesL_ (some 17) rfl rfl Tryz.func64 (by kernel_rfl) rfl #[.string a0, .int .i64 (wrap64 (a1 + 1))] rfl (by (try simp only [List.map_toArray, List.map_cons, List.map_nil]); first | done | rfl | (simp only [List.length_drop, List.length_take]; rfl)) ?_; (with_reducible refine (tok_source_from.calls a0 (wrap64 (a1 + 1)) t127 _ A3.out).mono ?_); rintro e w20 ⟨rfl, hb⟩; refine ⟨_, rfl, ?_⟩; have n0_ := Aside0.mk (blk_below (g := gb126) (o := .cells #[.int .i64 0, .int .i64 0, .int .i64 0, .string (⟨#[]⟩ : ByteArray)] 40 (0, 0)) (by (with_reducible repeat (first | refine blk_drewN ?_ _ | refine blk_drew ?_ | refine blk_alloc ?_ _)); exact BK126.out) hb); have n1_ := Aside0.mk (below_step (by repeat (first | (with_reducible first | exact HB.out | apply below_alloc | apply pw_below_drewN | apply below_drew1 | refine below_set ?_ GE126.out) | exact HB.out)) hb); clear BK126; clear HB; have BK126 := n0_; have HB := n1_; clear n0_ n1_; (try clear hb); (try clear hb2); (try clear hk); (try clear hi)) | ((with_reducible refine gate_callee (f := 68) rfl ?_); refine goesL_ (some 18) rfl rfl Tryz.func68 (by kernel_rfl) rfl #[.string t127, .string (⟨#[62]⟩ : ByteArray)] rfl (by (try simp only [List.map_toArray, List.map_cons, List.map_nil]); first | done | rfl | (simp only [List.length_drop, List.length_take]; rfl)) ?_; (with_reducible refine (strings_Cut.calls t127 (⟨#[62]⟩ : ByteArray) t128 t129 false _ ?side1 A4.out).mono ?_); (case side1 => exact GW.below (by repeat (first | (with_reducible first | exact HB.out | apply below_alloc | apply pw_below_drewN | apply below_drew1 | refine below_set ?_ GE126.out) | exact HB.out)) HG.out); rintro e w21 ⟨rfl, hb⟩; refine ⟨_, rfl, ?_⟩; have n0_ := Aside0.mk (blk_below (g := gb126) (o := .cells #[.int .i64 0, .int .i64 0, .int .i64 0, .string (⟨#[]⟩ : ByteArray)] 40 (0, 0)) (by (with_reducible repeat (first | refine blk_drewN ?_ _ | refine blk_drew ?_ | refine blk_alloc ?_ _)); exact BK126.out) hb); have n1_ := Aside0.mk (below_step (by repeat (first | (with_reducible first | exact HB.out | apply below_alloc | apply pw_below_drewN | apply below_drew1 | refine below_set ?_ GE126.out) | exact HB.out)) hb); clear BK126; clear HB; have BK126 := n0_; have HB := n1_; clear n0_ n1_; (try clear hb); (try clear hb2); (try clear hk); (try clear hi); have hcz22_0 : w21.cell? ⟨gb126, 0, none⟩ = some (.int .i64 0) := (blk_cell BK126.out 0).trans rfl; have hcz22_1 : w21.cell? ⟨gb126, 1, none⟩ = some (.int .i64 0) := (blk_cell BK126.out 1).trans rfl; have hcz22_2 : w21.cell? ⟨gb126, 2, none⟩ = some (.int .i64 0) := (blk_cell BK126.out 2).trans rfl; have hcz22_3 : w21.cell? ⟨gb126, 3, none⟩ = some (.string (⟨#[]⟩ : ByteArray)) := (blk_cell BK126.out 3).trans rfl; have hfz22_0 := blk_frozen BK126.out 0; have hfz22_1 := blk_frozen BK126.out 1; have hfz22_2 := blk_frozen BK126.out 2; have hfz22_3 := blk_frozen BK126.out 3))
  refine bodyPost_ret (results_ctt rfl _ _ gb126 40 #[.int .i64 0, .int .i64 0, .int .i64 0, .string (⟨#[]⟩ : ByteArray)] (0, 0) _ rfl (by (with_reducible repeat (first | refine blk_drewN ?_ _ | refine blk_drew ?_ | refine blk_alloc ?_ _)); refine blk_put (cs := #[.int .i64 0, .int .i64 0, .int .i64 0, .string (⟨#[]⟩ : ByteArray)]) ?_ 3 _ rfl; (with_reducible repeat (first | refine blk_drewN ?_ _ | refine blk_drew ?_ | refine blk_alloc ?_ _)); refine blk_put (cs := #[.int .i64 0, .int .i64 0, .int .i64 0, .string (⟨#[]⟩ : ByteArray)]) ?_ 2 _ rfl; (with_reducible repeat (first | refine blk_drewN ?_ _ | refine blk_drew ?_ | refine blk_alloc ?_ _)); refine blk_put (cs := #[.int .i64 0, .int .i64 0, .int .i64 0, .string (⟨#[]⟩ : ByteArray)]) ?_ 1 _ rfl; (with_reducible repeat (first | refine blk_drewN ?_ _ | refine blk_drew ?_ | refine blk_alloc ?_ _)); refine blk_put (cs := #[.int .i64 0, .int .i64 0, .int .i64 0, .string (⟨#[]⟩ : ByteArray)]) ?_ 0 _ rfl; (with_reducible repeat (first | refine blk_drewN ?_ _ | refine blk_drew ?_ | refine blk_alloc ?_ _)); exact BK126.out) Tryz.underlying40 rfl (by kernel_rfl)) rfl ?_
  exact ⟨by first | rfl | (simp [errW_none, errW_some] <;> rfl) | (simp [*, errW_none, errW_some] <;> rfl), by repeat (first | (with_reducible first | exact HB.out | apply below_alloc | apply pw_below_drewN | apply below_drew1 | refine below_set ?_ GE126.out) | exact HB.out)⟩
def tok_number.l0 : Nat → ByteArray → Int → Int → Option (Int × Int)
 | 0, _, _, _ => none
 | k + 1, x0, x4, x5 => if x5 < 3 then (if x5 < (x0.size : Int) then (if 0 ≤ x5 then (if (bt x0 x5) ≥ 48 then (if (bt x0 x5) < 56 then (tok_number.l0 k x0 (wrap64 ((wrap64 (x4 * 8)) + (((bt x0 x5) - 48) % 256))) (wrap64 (x5 + 1))) else (some ((x4) % 256, x5))) else (some ((x4) % 256, x5))) else (none)) else (some ((x4) % 256, x5))) else (some ((x4) % 256, x5))
def tok_number.f (k : Nat) (a0 : ByteArray) : Option (Int × Int) := tok_number.l0 k a0 0 0
theorem tok_number.mono_l : ∀ k, (∀ y0 y1 y2, LeO (tok_number.l0 k y0 y1 y2) (tok_number.l0 (k + 1) y0 y1 y2))
 | 0 => fun _ _ _ r h => by simp [tok_number.l0] at h
 | k + 1 => by
  have ih0 := tok_number.mono_l k
  ·intro y0 y1 y2
   unfold tok_number.l0
   repeat' first
   | (with_reducible exact ih0 _ _ _)
   | (with_reducible exact LeO.refl _)
   | (with_reducible exact LeO.none _)
   | (with_reducible refine LeO.ite ?_ ?_)
   | (with_reducible refine LeO.bind ?_ (fun _ => ?_))
   | exact ih0 _ _ _
   | exact LeO.none _
   | refine LeO.ite ?_ ?_
   | refine LeO.bind ?_ (fun _ => ?_)
theorem tok_number.mono : ∀ a0 k, LeO (tok_number.f k a0) (tok_number.f (k + 1) a0) := by
 intro a0 k
 have ih0 := tok_number.mono_l k
 unfold tok_number.f
 repeat' first
   | (with_reducible exact ih0 _ _ _)
   | (with_reducible exact LeO.refl _)
   | (with_reducible exact LeO.none _)
   | (with_reducible refine LeO.ite ?_ ?_)
   | (with_reducible refine LeO.bind ?_ (fun _ => ?_))
   | exact ih0 _ _ _
   | exact LeO.none _
   | refine LeO.ite ?_ ?_
   | refine LeO.bind ?_ (fun _ => ?_)
set_option maxHeartbeats 8000000 in
set_option maxRecDepth 100000 in
theorem tok_number.calls (k : Nat) (a0 : ByteArray) (r1 : Int) (r2 : Int) (w : World) (h : tok_number.f k a0 = some (r1, r2)) :
  Calls Tryz.prog 95 #[.string a0] w fun e w' => e = .returned (.tuple #[.int .u8 r1, .int .i64 r2]) ∧ Drawn0 w w' := by
 have H : (tok_number.l0 k a0 0 0) = some (r1, r2) := h
 clear h
 have H' := aM H
 clear H
 go_enter Tryz.func95, Tryz.ntmps95
 go_wp2
 go_loopg [4, 5] k (fun kq v4 v5 w' => ∃ (x4_1 : Int) (x5_1 : Int), v4 = .int .i64 x4_1 ∧ v5 = .int .i64 x5_1 ∧ Aside0 (tok_number.l0 kq a0 x4_1 x5_1 = some (r1, r2)) ∧ Aside0 (kq ≤ k) ∧ Drawn0 w w')
 case atStart => exact ⟨(0), (0), vQ, vQ, H', ⟨Nat.le_refl _⟩, by repeat (first | exact Drawn0.refl _ | apply Drawn0.step)⟩
 case round =>
  clear H'
  obtain ⟨x4_1, x5_1, rfl, rfl, HA, HK1, ⟨m1, rfl⟩⟩ := hrel
  cases gk with
  | zero => exact absurd HA.out (by simp [tok_number.l0])
  | succ k1 =>
   have H := HA.out
   clear HA
   simp only [tok_number.l0] at H
   refine iD H ?_ ?_<;>clear H<;>intro H c2b0
   rotate_left
   ·simp only [Option.some.injEq, Prod.mk.injEq] at H
    obtain ⟨rfl, rfl⟩ := H
    go_wp2
    go_ret2
    exact ⟨by first | rfl | (simp; done) | (simp [*]; done), by repeat (first | exact Drawn0.refl _ | apply Drawn0.step)⟩
   refine iD H ?_ ?_<;>clear H<;>intro H c3b0
   rotate_left
   ·simp only [Option.some.injEq, Prod.mk.injEq] at H
    obtain ⟨rfl, rfl⟩ := H
    go_wp2
    go_ret2
    exact ⟨by first | rfl | (simp; done) | (simp [*]; done), by repeat (first | exact Drawn0.refl _ | apply Drawn0.step)⟩
   refine iD H ?_ ?_<;>clear H<;>intro H c4b0
   rotate_left
   ·exact absurd H (by simp)
   refine iNc H ?_ ?_<;>clear H<;>intro H c6
   rotate_left
   ·have c6b0 : decide (48 ≤ (bt a0 x5_1)) = false := decide_eq_false c6
    clear c6
    simp only [Option.some.injEq, Prod.mk.injEq] at H
    obtain ⟨rfl, rfl⟩ := H
    have p5 : 0 ≤ (x5_1 : Int) := of_decide_eq_true hQ
    have q5 : x5_1 < (a0.size : Int) := of_decide_eq_true hQ
    have hx5 := bt_at a0 x5_1
    replace p5 := eq_true p5
    replace q5 := eq_true q5
    go_wp2
    go_ret2
    exact ⟨by first | rfl | (simp; done) | (simp [*]; done), by repeat (first | exact Drawn0.refl _ | apply Drawn0.step)⟩
   have c6b0 : decide (48 ≤ (bt a0 x5_1)) = true := decide_eq_true c6
   clear c6
   refine iD H ?_ ?_<;>clear H<;>intro H c8b0
   rotate_left
   ·simp only [Option.some.injEq, Prod.mk.injEq] at H
    obtain ⟨rfl, rfl⟩ := H
    have p5 : 0 ≤ (x5_1 : Int) := of_decide_eq_true hQ
    have q5 : x5_1 < (a0.size : Int) := of_decide_eq_true hQ
    have hx5 := bt_at a0 x5_1
    replace p5 := eq_true p5
    replace q5 := eq_true q5
    have p7 : 0 ≤ (x5_1 : Int) := of_decide_eq_true hQ
    have q7 : x5_1 < (a0.size : Int) := of_decide_eq_true hQ
    have hx7 := bt_at a0 x5_1
    replace p7 := eq_true p7
    replace q7 := eq_true q7
    go_wp2
    go_ret2
    exact ⟨by first | rfl | (simp; done) | (simp [*]; done), by repeat (first | exact Drawn0.refl _ | apply Drawn0.step)⟩
   have H' := aM H
   clear H
   have p5 : 0 ≤ (x5_1 : Int) := of_decide_eq_true hQ
   have q5 : x5_1 < (a0.size : Int) := of_decide_eq_true hQ
   have hx5 := bt_at a0 x5_1
   replace p5 := eq_true p5
   replace q5 := eq_true q5
   have p7 : 0 ≤ (x5_1 : Int) := of_decide_eq_true hQ
   have q7 : x5_1 < (a0.size : Int) := of_decide_eq_true hQ
   have hx7 := bt_at a0 x5_1
   replace p7 := eq_true p7
   replace q7 := eq_true q7
   have p9 : 0 ≤ (x5_1 : Int) := of_decide_eq_true hQ
   have q9 : x5_1 < (a0.size : Int) := of_decide_eq_true hQ
   have hx9 := bt_at a0 x5_1
   replace p9 := eq_true p9
   replace q9 := eq_true q9
   go_wp2
   go_roundg k1
   case measure => have := HK1.out; omega
   case rel => exact ⟨(wrap64 ((wrap64 (x4_1 * 8)) + (((bt a0 x5_1) - 48) % 256))), (wrap64 (x5_1 + 1)), vQ, vQ, H', ⟨by have := HK1.out; omega⟩, by repeat (first | exact Drawn0.refl _ | apply Drawn0.step)⟩
def tok_escaped.j0 : Nat → ByteArray → Bool → Option (ByteArray × Int)
 | 0, _, _ => none
 | k + 1, x0, x24 => if x24 = true then (some ((⟨#[]⟩ : ByteArray), 1)) else (if 0 < (x0.size : Int) then ((strings_IndexByte.f (⟨#[110, 114, 116, 98, 102]⟩ : ByteArray) (bt x0 0)).bind fun t142 => (if t142 ≥ 0 then (if 0 ≤ t142 then (if t142 ≤ (wrap64 (t142 + 1)) then (if (wrap64 (t142 + 1)) ≤ 5 then (some ((⟨#[10, 13, 9, 8, 12]⟩ : ByteArray).extract (t142 : Int).toNat ((wrap64 (t142 + 1)) : Int).toNat, 1)) else (none)) else (none)) else (none)) else (if 0 ≤ 1 then (if 1 ≤ (x0.size : Int) then (some (x0.extract 0 1, 1)) else (none)) else (none)))) else (none))
def tok_escaped.f (k : Nat) (a0 : ByteArray) : Option (ByteArray × Int) := (tok_number.f k a0).bind fun bt136 => (if bt136.2 > 0 then (some (strOfNums (([bt136.1] : List Int)), bt136.2)) else (if a0.toList = ([] : List UInt8) then (some ((⟨#[]⟩ : ByteArray), 0)) else ((strings_HasPrefix.f a0 (⟨#[13, 10]⟩ : ByteArray)).bind fun t141 => (if t141 = true then (some ((⟨#[]⟩ : ByteArray), 2)) else (if 0 < (a0.size : Int) then (if (bt a0 0) = 10 then (tok_escaped.j0 k a0 true) else (tok_escaped.j0 k a0 ((bt a0 0) == 13))) else (none))))))
theorem tok_escaped.mono_l : ∀ k, (∀ y0 y1, LeO (tok_escaped.j0 k y0 y1) (tok_escaped.j0 (k + 1) y0 y1))
 | 0 => fun _ _ r h => by simp [tok_escaped.j0] at h
 | k + 1 => by
  have ih0 := tok_escaped.mono_l k
  ·intro y0 y1
   unfold tok_escaped.j0
   repeat' first
   | (with_reducible exact ih0 _ _)
   | (with_reducible exact tok_number.mono _ _)
   | (with_reducible exact LeO.refl _)
   | (with_reducible exact LeO.none _)
   | (with_reducible refine LeO.ite ?_ ?_)
   | (with_reducible refine LeO.bind ?_ (fun _ => ?_))
   | exact ih0 _ _
   | exact tok_number.mono _ _
   | exact LeO.none _
   | refine LeO.ite ?_ ?_
   | refine LeO.bind ?_ (fun _ => ?_)
theorem tok_escaped.mono : ∀ a0 k, LeO (tok_escaped.f k a0) (tok_escaped.f (k + 1) a0) := by
 intro a0 k
 have ih0 := tok_escaped.mono_l k
 unfold tok_escaped.f
 repeat' first
   | (with_reducible exact ih0 _ _)
   | (with_reducible exact tok_number.mono _ _)
   | (with_reducible exact LeO.refl _)
   | (with_reducible exact LeO.none _)
   | (with_reducible refine LeO.ite ?_ ?_)
   | (with_reducible refine LeO.bind ?_ (fun _ => ?_))
   | exact ih0 _ _
   | exact tok_number.mono _ _
   | exact LeO.none _
   | refine LeO.ite ?_ ?_
   | refine LeO.bind ?_ (fun _ => ?_)
set_option maxHeartbeats 8000000 in
set_option maxRecDepth 100000 in
theorem tok_escaped.calls (k : Nat) (a0 : ByteArray) (r1 : ByteArray) (r2 : Int) (w : World) (h : tok_escaped.f k a0 = some (r1, r2)) :
  Calls Tryz.prog 70 #[.string a0] w fun e w' => e = .returned (.tuple #[.string r1, .int .i64 r2]) ∧ Below w.heap.size w w' := by
 have HB := aM (Below.refl w.heap.size w)
 have H : ((tok_number.f k a0).bind fun bt136 => (if bt136.2 > 0 then (some (strOfNums (([bt136.1] : List Int)), bt136.2)) else (if a0.toList = ([] : List UInt8) then (some ((⟨#[]⟩ : ByteArray), 0)) else ((strings_HasPrefix.f a0 (⟨#[13, 10]⟩ : ByteArray)).bind fun t141 => (if t141 = true then (some ((⟨#[]⟩ : ByteArray), 2)) else (if 0 < (a0.size : Int) then (if (bt a0 0) = 10 then (tok_escaped.j0 k a0 true) else (tok_escaped.j0 k a0 ((bt a0 0) == 13))) else (none))))))) = some (r1, r2) := h
 clear h
 replace H := bS H
 obtain ⟨⟨t136, t137⟩, A2, H⟩ := H
 try dsimp only at H
 refine iNc H ?_ ?_<;>clear H<;>intro H c3
 ·have c3b0 : decide (0 < t137) = true := decide_eq_true c3
  clear c3
  obtain ⟨y138, hy138⟩ : ∃ y_ : List Int, y_ = (([t136] : List Int)) := ⟨_, rfl⟩
  replace H : (some (strOfNums y138, t137)) = some (r1, r2) := by first | (rw [hy138]; with_reducible exact H) | (have H2_ := (Option.bind_some _ _).symm.trans H; rw [hy138]; with_reducible exact H2_) | (have H2_ := (Option.bind_some _ _).symm.trans H; with_reducible exact H2_) | with_reducible exact H | (rw [hy138]; exact H) | exact H
  have Ny138 := aM hy138
  clear hy138
  simp only [Option.some.injEq, Prod.mk.injEq] at H
  obtain ⟨rfl, rfl⟩ := H
  go_enter Tryz.func70, Tryz.ntmps70
  go_wp2_with (first | ((with_reducible refine gC 95 ?_); refine gL (some 9) Tryz.func95 #[.string a0] ?_; (with_reducible refine (tok_number.calls k a0 t136 t137 _ A2.out).mono ?_); rintro e w' ⟨rfl, ⟨nd, rfl⟩⟩; refine ⟨_, rfl, ?_⟩) | ((with_reducible refine gD 15 ?_); refine Kd.R_lit (Kd.int .u8) _ 5 ?hg (N := 15) ?hd (xs := ([t136] : List Int)) (inner := [.int .u8 t136]) (ok := fun _ => True) (okp := fun _ => True) ?hr ?hp (fun _ hk => hk) trivial (Below.refl _ _) (Nat.le_refl _) (by simp) ?_; (case hd => rfl); (case hg => rfl); (case hr => first | (go_simp; done) | (go_simp; rfl)); (case hp => exact (Reps.one (show Kd.M (Kd.int .u8) _ _ _ t136 [.int .u8 t136] from rfl) (Reps.none _ _))); intro v139 w4 ho5 hb hg_ hnew_; clear hg_ hnew_; (first | rw [← Ny138.out] at ho5 | (simp only [Int.reduceToNat] at ho5; rw [← Ny138.out] at ho5)); have HO140 := lK ho5; replace HB := sB hb; clear hb ho5; have hcv6 := own_string (P := Tryz.prog) Tryz.underlying52 Tryz.underlying5 Tryz.underlying9 (Kd.own_of_R HO140.out)))
  go_ret2
  exact ⟨eQ, bQ⟩
 have c3b0 : decide (0 < t137) = false := decide_eq_false c3
 clear c3
 refine iEc H ?_ ?_<;>clear H<;>intro H c7b0 c7b1 c7
 ·clear c7
  simp only [Option.some.injEq, Prod.mk.injEq] at H
  obtain ⟨rfl, rfl⟩ := H
  go_enter Tryz.func70, Tryz.ntmps70
  go_wp2_with (first | ((with_reducible refine gC 95 ?_); refine gL (some 9) Tryz.func95 #[.string a0] ?_; (with_reducible refine (tok_number.calls k a0 t136 t137 _ A2.out).mono ?_); rintro e w' ⟨rfl, ⟨nd, rfl⟩⟩; refine ⟨_, rfl, ?_⟩))
  go_ret2
  exact ⟨eQ, bQ⟩
 replace H := bS H
 obtain ⟨t141, A8, H⟩ := H
 try dsimp only at H
 by_cases c9 : t141 = true
 ·subst c9
  rw [if_pos rfl] at H
  simp only [Option.some.injEq, Prod.mk.injEq] at H
  obtain ⟨rfl, rfl⟩ := H
  go_enter Tryz.func70, Tryz.ntmps70
  go_wp2_with (first | ((with_reducible refine gC 95 ?_); refine gL (some 9) Tryz.func95 #[.string a0] ?_; (with_reducible refine (tok_number.calls k a0 t136 t137 _ A2.out).mono ?_); rintro e w' ⟨rfl, ⟨nd, rfl⟩⟩; refine ⟨_, rfl, ?_⟩) | ((with_reducible refine gC 63 ?_); refine gL (some 23) Tryz.func63 #[.string a0, .string (⟨#[13, 10]⟩ : ByteArray)] ?_; (with_reducible refine (strings_HasPrefix.calls a0 (⟨#[13, 10]⟩ : ByteArray) true _ A8.out).mono ?_); rintro e w' ⟨rfl, ⟨nd, rfl⟩⟩; refine ⟨_, rfl, ?_⟩))
  go_ret2
  exact ⟨eQ, bQ⟩
 replace c9 := Bool.eq_false_iff.mpr c9
 subst c9
 rw [if_neg (show ¬ (false = true) by decide)] at H
 have HC10 := aM H
 clear H
 go_enter Tryz.func70, Tryz.ntmps70
 go_upto_region 8 with (first | ((with_reducible refine gC 95 ?_); refine gL (some 9) Tryz.func95 #[.string a0] ?_; (with_reducible refine (tok_number.calls k a0 t136 t137 _ A2.out).mono ?_); rintro e w' ⟨rfl, ⟨nd, rfl⟩⟩; refine ⟨_, rfl, ?_⟩) | ((with_reducible refine gC 63 ?_); refine gL (some 23) Tryz.func63 #[.string a0, .string (⟨#[13, 10]⟩ : ByteArray)] ?_; (with_reducible refine (strings_HasPrefix.calls a0 (⟨#[13, 10]⟩ : ByteArray) false _ A8.out).mono ?_); rintro e w' ⟨rfl, ⟨nd, rfl⟩⟩; refine ⟨_, rfl, ?_⟩))
 (try simp only [Act.put, List.setIfInBounds_toArray, List.set_cons_zero, List.set_cons_succ])
 go_cut [24] (fun v24 wc => ∃ (kq : Nat) (x24_9 : Bool), v24 = .bool x24_9 ∧ Aside0 (tok_escaped.j0 kq a0 x24_9 = some (r1, r2)) ∧ Aside0 (kq ≤ k) ∧ Aside0 (Below w.heap.size w wc))
 case first =>
  have H := HC10.out
  clear HC10
  refine iDc H ?_ ?_<;>clear H<;>intro H c11b0 c11
  rotate_left
  ·exact absurd H (by simp)
  have c11b1 : decide (0 < a0.size) = true := decide_eq_true (by omega)
  clear c11
  (first | rw [c11b0] | (simp only [i64_w, i32_w]; rw [c11b0]) | skip)
  refine iEc H ?_ ?_<;>clear H<;>intro H c13b0 c13b1 c13
  ·clear c13
   have H' := aM H
   clear H
   have p12 : 0 ≤ (0 : Int) := (by omega)
   have q12 : 0 < a0.size := (by have : (0 : Int) < (a0.size : Int) := of_decide_eq_true hQ; omega)
   have hx12 : ∀ h : 0 < a0.size, ((a0[0]'h).toNat : Int) = bt a0 0 := bt_at a0 0
   clear p12
   have qi12 : (0 < (a0.size : Int)) = True := eq_true (of_decide_eq_true hQ)
   replace q12 := eq_true q12
   go_wp2
   go_meet
   case rel => exact ⟨_, (true), vQ, H', ⟨by first | omega | exact Nat.le_refl _⟩, ⟨bQ⟩⟩
  have H' := aM H
  clear H
  have p12 : 0 ≤ (0 : Int) := (by omega)
  have q12 : 0 < a0.size := (by have : (0 : Int) < (a0.size : Int) := of_decide_eq_true hQ; omega)
  have hx12 : ∀ h : 0 < a0.size, ((a0[0]'h).toNat : Int) = bt a0 0 := bt_at a0 0
  clear p12
  have qi12 : (0 < (a0.size : Int)) = True := eq_true (of_decide_eq_true hQ)
  replace q12 := eq_true q12
  have p14 : 0 ≤ (0 : Int) := (by omega)
  have q14 : 0 < a0.size := (by have : (0 : Int) < (a0.size : Int) := of_decide_eq_true hQ; omega)
  have hx14 : ∀ h : 0 < a0.size, ((a0[0]'h).toNat : Int) = bt a0 0 := bt_at a0 0
  clear p14
  have qi14 : (0 < (a0.size : Int)) = True := eq_true (of_decide_eq_true hQ)
  replace q14 := eq_true q14
  go_wp2
  go_meet
  case rel => exact ⟨_, (((bt a0 0) == 13)), vQ, H', ⟨by first | omega | exact Nat.le_refl _⟩, ⟨bQ⟩⟩
 case rest =>
  clear HC10
  try clear c1
  try clear p1
  try clear q1
  try clear hx1
  try clear qi1
  try clear p2
  try clear c3
  try clear c3b0
  try clear c6
  try clear hcv6
  try clear c7
  try clear c7b0
  try clear c7b1
  try clear c9
  try clear c11
  try clear c11b0
  try clear c11b1
  try clear p12
  try clear q12
  try clear hx12
  try clear qi12
  try clear c13
  try clear c13b0
  try clear c13b1
  try clear p14
  try clear q14
  try clear hx14
  try clear qi14
  try clear p12
  try clear p14
  try clear q12
  try clear q14
  obtain ⟨kq, x24_9, rfl, HA, HJ9, HB⟩ := hcut
  cases kq with
  | zero => exact absurd HA.out (by simp [tok_escaped.j0])
  | succ kj9 =>
   have H := HA.out
   clear HA
   simp only [tok_escaped.j0] at H
   by_cases c15 : x24_9 = true
   ·subst c15
    rw [if_pos rfl] at H
    simp only [Option.some.injEq, Prod.mk.injEq] at H
    obtain ⟨rfl, rfl⟩ := H
    go_wp2
    go_ret2
    exact ⟨eQ, bQ⟩
   replace c15 := Bool.eq_false_iff.mpr c15
   subst c15
   rw [if_neg (show ¬ (false = true) by decide)] at H
   refine iDc H ?_ ?_<;>clear H<;>intro H c16b0 c16
   rotate_left
   ·exact absurd H (by simp)
   have c16b1 : decide (0 < a0.size) = true := decide_eq_true (by omega)
   clear c16
   replace H := bS H
   obtain ⟨t142, A18, H⟩ := H
   try dsimp only at H
   refine iNc H ?_ ?_<;>clear H<;>intro H c19
   rotate_left
   ·have c19b0 : decide (0 ≤ t142) = false := decide_eq_false c19
    clear c19
    refine iNc H ?_ ?_<;>clear H<;>intro H c23
    rotate_left
    ·exact absurd H (by simp)
    have c23b0 := eq_true c23
    have c23b1 : decide (0 ≤ 1) = true := decide_eq_true c23
    clear c23
    refine iNc H ?_ ?_<;>clear H<;>intro H c24
    rotate_left
    ·exact absurd H (by simp)
    have c24b0 := eq_true c24
    have c24b1 : decide (1 ≤ (a0.size : Int)) = true := decide_eq_true c24
    clear c24
    simp only [Option.some.injEq, Prod.mk.injEq] at H
    obtain ⟨rfl, rfl⟩ := H
    have p17 : 0 ≤ (0 : Int) := (by omega)
    have q17 : 0 < a0.size := (by have : (0 : Int) < (a0.size : Int) := of_decide_eq_true hQ; omega)
    have hx17 : ∀ h : 0 < a0.size, ((a0[0]'h).toNat : Int) = bt a0 0 := bt_at a0 0
    clear p17
    have qi17 : (0 < (a0.size : Int)) = True := eq_true (of_decide_eq_true hQ)
    replace q17 := eq_true q17
    go_wp2_with (first | ((with_reducible refine gC 60 ?_); refine gL (some 35) Tryz.func60 #[.string (⟨#[110, 114, 116, 98, 102]⟩ : ByteArray), .int .u8 (bt a0 0)] ?_; (with_reducible refine (strings_IndexByte.calls (⟨#[110, 114, 116, 98, 102]⟩ : ByteArray) (bt a0 0) t142 _ A18.out).mono ?_); rintro e w' ⟨rfl, ⟨nd, rfl⟩⟩; refine ⟨_, rfl, ?_⟩))
    go_ret2
    exact ⟨eQ, bQ⟩
   have c19b0 : decide (0 ≤ t142) = true := decide_eq_true c19
   clear c19
   refine iNc H ?_ ?_<;>clear H<;>intro H c20
   rotate_left
   ·exact absurd H (by simp)
   have c20b0 := eq_true c20
   have c20b1 : decide (0 ≤ t142) = true := decide_eq_true c20
   clear c20
   refine iNc H ?_ ?_<;>clear H<;>intro H c21
   rotate_left
   ·exact absurd H (by simp)
   have c21b0 := eq_true c21
   have c21b1 : decide (t142 ≤ (wrap64 (t142 + 1))) = true := decide_eq_true c21
   refine iNc H ?_ ?_<;>clear H<;>intro H c22
   rotate_left
   ·exact absurd H (by simp)
   have c22b0 := eq_true c22
   have c22b1 : decide ((wrap64 (t142 + 1)) ≤ 5) = true := decide_eq_true c22
   simp only [Option.some.injEq, Prod.mk.injEq] at H
   obtain ⟨rfl, rfl⟩ := H
   have p17 : 0 ≤ (0 : Int) := (by omega)
   have q17 : 0 < a0.size := (by have : (0 : Int) < (a0.size : Int) := of_decide_eq_true hQ; omega)
   have hx17 : ∀ h : 0 < a0.size, ((a0[0]'h).toNat : Int) = bt a0 0 := bt_at a0 0
   clear p17
   have qi17 : (0 < (a0.size : Int)) = True := eq_true (of_decide_eq_true hQ)
   replace q17 := eq_true q17
   go_wp2_with (first | ((with_reducible refine gC 60 ?_); refine gL (some 35) Tryz.func60 #[.string (⟨#[110, 114, 116, 98, 102]⟩ : ByteArray), .int .u8 (bt a0 0)] ?_; (with_reducible refine (strings_IndexByte.calls (⟨#[110, 114, 116, 98, 102]⟩ : ByteArray) (bt a0 0) t142 _ A18.out).mono ?_); rintro e w' ⟨rfl, ⟨nd, rfl⟩⟩; refine ⟨_, rfl, ?_⟩))
   go_ret2
   exact ⟨eQ, bQ⟩
def tok_line.f (a0 : ByteArray) : Option (Int) := (strings_HasPrefix.f a0 (⟨#[13, 10]⟩ : ByteArray)).bind fun t143 => (if t143 = true then (some 2) else ((strings_HasPrefix.f a0 (⟨#[13]⟩ : ByteArray)).bind fun t144 => (if t144 = true then (some 1) else (some 0))))
set_option maxHeartbeats 8000000 in
set_option maxRecDepth 100000 in
theorem tok_line.calls (a0 : ByteArray) (r : Int) (w : World) (h : tok_line.f a0 = some r) :
  Calls Tryz.prog 72 #[.string a0] w fun e w' => e = .returned (.int .i64 r) ∧ Drawn0 w w' := by
 have H : ((strings_HasPrefix.f a0 (⟨#[13, 10]⟩ : ByteArray)).bind fun t143 => (if t143 = true then (some 2) else ((strings_HasPrefix.f a0 (⟨#[13]⟩ : ByteArray)).bind fun t144 => (if t144 = true then (some 1) else (some 0))))) = some r := h
 clear h
 replace H := bS H
 obtain ⟨t143, A2, H⟩ := H
 try dsimp only at H
 by_cases c3 : t143 = true
 ·subst c3
  rw [if_pos rfl] at H
  obtain rfl := Option.some.inj H
  go_enter Tryz.func72, Tryz.ntmps72
  go_wp2_with (first | ((with_reducible refine gC 63 ?_); refine gL (some 5) Tryz.func63 #[.string a0, .string (⟨#[13, 10]⟩ : ByteArray)] ?_; (with_reducible refine (strings_HasPrefix.calls a0 (⟨#[13, 10]⟩ : ByteArray) true _ A2.out).mono ?_); rintro e w' ⟨rfl, ⟨nd, rfl⟩⟩; refine ⟨_, rfl, ?_⟩))
  go_ret
  exact ⟨by first | rfl | (simp; done) | (simp [*]; done), by repeat (first | exact Drawn0.refl _ | apply Drawn0.step)⟩
 replace c3 := Bool.eq_false_iff.mpr c3
 subst c3
 rw [if_neg (show ¬ (false = true) by decide)] at H
 replace H := bS H
 obtain ⟨t144, A4, H⟩ := H
 try dsimp only at H
 by_cases c5 : t144 = true
 ·subst c5
  rw [if_pos rfl] at H
  obtain rfl := Option.some.inj H
  go_enter Tryz.func72, Tryz.ntmps72
  go_wp2_with (first | ((with_reducible refine gC 63 ?_); refine gL (some 5) Tryz.func63 #[.string a0, .string (⟨#[13, 10]⟩ : ByteArray)] ?_; (with_reducible refine (strings_HasPrefix.calls a0 (⟨#[13, 10]⟩ : ByteArray) false _ A2.out).mono ?_); rintro e w' ⟨rfl, ⟨nd, rfl⟩⟩; refine ⟨_, rfl, ?_⟩) | ((with_reducible refine gC 63 ?_); refine gL (some 8) Tryz.func63 #[.string a0, .string (⟨#[13]⟩ : ByteArray)] ?_; (with_reducible refine (strings_HasPrefix.calls a0 (⟨#[13]⟩ : ByteArray) true _ A4.out).mono ?_); rintro e w' ⟨rfl, ⟨nd, rfl⟩⟩; refine ⟨_, rfl, ?_⟩))
  go_ret
  exact ⟨by first | rfl | (simp; done) | (simp [*]; done), by repeat (first | exact Drawn0.refl _ | apply Drawn0.step)⟩
 replace c5 := Bool.eq_false_iff.mpr c5
 subst c5
 rw [if_neg (show ¬ (false = true) by decide)] at H
 obtain rfl := Option.some.inj H
 go_enter Tryz.func72, Tryz.ntmps72
 go_wp2_with (first | ((with_reducible refine gC 63 ?_); refine gL (some 5) Tryz.func63 #[.string a0, .string (⟨#[13, 10]⟩ : ByteArray)] ?_; (with_reducible refine (strings_HasPrefix.calls a0 (⟨#[13, 10]⟩ : ByteArray) false _ A2.out).mono ?_); rintro e w' ⟨rfl, ⟨nd, rfl⟩⟩; refine ⟨_, rfl, ?_⟩) | ((with_reducible refine gC 63 ?_); refine gL (some 8) Tryz.func63 #[.string a0, .string (⟨#[13]⟩ : ByteArray)] ?_; (with_reducible refine (strings_HasPrefix.calls a0 (⟨#[13]⟩ : ByteArray) false _ A4.out).mono ?_); rintro e w' ⟨rfl, ⟨nd, rfl⟩⟩; refine ⟨_, rfl, ?_⟩))
 go_ret
 exact ⟨by first | rfl | (simp; done) | (simp [*]; done), by repeat (first | exact Drawn0.refl _ | apply Drawn0.step)⟩
end Go.Proofs.YtjplnhdplpiogaaGreatDoor.M
end
section
namespace Go.Proofs.YtjplnhdplpiogaaGreatDoor.M
open Go.RowKit Go.Proofs.YtjplnhdplpiogaaGreatDoorW.PrintWords Go.Proofs.YtjplnhdplpiogaaGreatDoorW.PrintLast
set_option linter.unusedVariables false
set_option linter.unusedSimpArgs false
abbrev TokR := Int × Int × Int × ByteArray × Int × Int
def deepOf (c deep : Int) : Int := if c = 41 then deep - 1 else if c = 40 then deep + 1 else deep
def tok_source_strung.g (K : Nat) (a0 : ByteArray) (a1 : Int) : Nat → List UInt8 → Int → Int → Option TokR
 | 0, _, _, _ => none
 | n + 1, out, deep, p =>
  if out.length ≤ 140737488351232 ∧ 0 ≤ p ∧ p ≤ 4611686018427387904 ∧ 1 ≤ deep ∧ deep ≤ 32 ∧ a0.size ≤ 140737488351232 then
   (tok_source_from.f a0 p).bind fun rest =>
   if rest.size = 0 then some (0, 0, 0, ⟨#[]⟩, a0.size, 2)
   else if bt rest 0 = 92 then
    (tok_escaped.f K (rest.extract 1 rest.size)).bind fun bn =>
    if bn.2 = 0 then some (0, 0, 0, ⟨#[]⟩, a0.size, 2)
    else if 0 < bn.2 ∧ bn.2 ≤ 4611686018427387900 ∧ out.length + bn.1.size ≤ 140737488351232 then tok_source_strung.g K a0 a1 n (out ++ bn.1.data.toList) deep (p + (1 + bn.2)) else none
   else if bt rest 0 = 41 ∧ deep = 1 then some (5, a1, 0, ⟨out.toArray⟩, p + 1, 0)
   else if bt rest 0 = 40 ∧ deep = 32 then some (0, 0, 0, ⟨#[]⟩, p, 5)
   else
    (tok_line.f rest).bind fun m =>
    if 0 < m ∧ m ≤ 2 then tok_source_strung.g K a0 a1 n (out ++ [10]) (deepOf (bt rest 0) deep) (p + m)
    else if m = 0 then tok_source_strung.g K a0 a1 n (out ++ [(bt rest 0).toNat.toUInt8]) (deepOf (bt rest 0) deep) (p + 1)
    else none
  else none
def tok_source_strung.f (K : Nat) (a0 : ByteArray) (a1 : Int) : Option TokR := if 0 ≤ a1 ∧ a1 ≤ 140737488351232 then tok_source_strung.g K a0 a1 K [] 1 (a1 + 1) else none
theorem tok_source_strung.mono_g (K : Nat) (a0 : ByteArray) (a1 : Int) : ∀ n out deep p, LeO (tok_source_strung.g K a0 a1 n out deep p) (tok_source_strung.g (K + 1) a0 a1 (n + 1) out deep p)
 | 0, _, _, _ => fun r h => by simp [tok_source_strung.g] at h
 | n + 1, out, deep, p => by
  have ih := tok_source_strung.mono_g K a0 a1 n
  unfold tok_source_strung.g
  repeat' first
   | (with_reducible exact ih _ _ _)
   | (with_reducible exact tok_escaped.mono _ _)
   | (with_reducible exact LeO.refl _)
   | (with_reducible exact LeO.none _)
   | (with_reducible refine LeO.ite ?_ ?_)
   | (with_reducible refine LeO.bind ?_ (fun _ => ?_))
theorem tok_source_strung.mono : ∀ a0 a1 k, LeO (tok_source_strung.f k a0 a1) (tok_source_strung.f (k + 1) a0 a1) := by
 intro a0 a1 k
 unfold tok_source_strung.f
 refine LeO.ite ?_ (LeO.none _)
 exact tok_source_strung.mono_g k a0 a1 k [] 1 (a1 + 1)
theorem from_lt {a0 rest : ByteArray} {p : Int} (h : tok_source_from.f a0 p = some rest) (hp : 0 ≤ p) (h0 : rest.size ≠ 0) : p < a0.size ∧ rest.size ≤ a0.size := by
 unfold tok_source_from.f at h
 split at h
 case isFalse => cases h
 split at h
 case isFalse => cases h
 obtain rfl := Option.some.inj h
 rw [ByteArray.size_extract] at h0 ⊢
 unfold mn at *
 split at h0 <;> omega
/-- A pass from the label holds at the first one too. -/
theorem wp_scope_once {P : Program} {a : Act} {w : World} {Q : Exit → Act → World → Prop} {c rest : Code} (l : Nat) (J : Act → World → Prop) (μ : Act → World → Nat) (hf : findLabel c l = some (Code.skip.seq rest))
  (pass : ∀ a w, J a w → rest.wp P (Exit.jump l (fun a' w' => J a' w' ∧ μ a' w' < μ a w) Q) a w)
  (first : Aside0 (∀ a w, J a w → rest.wp P (Exit.jump l J Q) a w) → c.wp P (Exit.jump l J Q) a w) : (Code.scope c).wp P Q a w := by
 refine wp_scope_jumps l J μ hf (first ⟨?_⟩) (fun a w hJ => wp_seq (wp_skip (pass a w hJ)))
 intro a w hJ b k cs
 obtain ⟨e, a', w', hq, ha⟩ := pass a w hJ b k cs
 refine ⟨e, a', w', ?_, ha⟩
 cases e <;> first | exact hq | exact ⟨hq.1, hq.2.1⟩
theorem strung_bt (rest : ByteArray) (h : rest.size ≠ 0) : ∃ c : UInt8, bt rest 0 = (c.toNat : Int) ∧ ∀ h : 0 < rest.size, rest[0]'h = c := by
 refine ⟨rest[0]'(by omega), ?_, fun _ => rfl⟩
 exact (bt_at rest 0 (by omega)).symm
def StrJ (K : Nat) (a0 : ByteArray) (a1 : Int) (R : TokR) (Z : Array Value) (w : World) (a' : Act) (w' : World) : Prop :=
 ∃ (n : Nat) (out : List UInt8) (deep p : Int) (u2 u3 u10 u11 u12 u13 u14 u15 u16 u17 u18 u19 u20 u21 u22 u23 u24 u25 u26 u27 u28 u29 u30 u31 u32 u33 u34 u35 u36 u37 u38 u39 u40 u41 u42 u43 u44 u45 u46 u47 u48 u49 u50 u51 u52 u53 u54 u55 u56 u57 u58 u59 u60 u61 u62 u63 u64 u65 u66 u67 u68 u69 u70 u71 u72 u73 u74 u75 u76 u77 u78 u79 u80 u81 u82 u83 u84 u85 u86 u87 u88 u89 u90 u91 u92 u93 : Value), a' = { tmps := #[.string a0, .int .i64 a1, u2, u3, .pointer (some ⟨w.heap.size, 0, none⟩), .int .i64 0, .int .i64 0, .pointer (some ⟨w.heap.size + 1, 0, none⟩), .int .i64 deep, .int .i64 p, u10, u11, u12, u13, u14, u15, u16, u17, u18, u19, u20, u21, u22, u23, u24, u25, u26, u27, u28, u29, u30, u31, u32, u33, u34, u35, u36, u37, u38, u39, u40, u41, u42, u43, u44, u45, u46, u47, u48, u49, u50, u51, u52, u53, u54, u55, u56, u57, u58, u59, u60, u61, u62, u63, u64, u65, u66, u67, u68, u69, u70, u71, u72, u73, u74, u75, u76, u77, u78, u79, u80, u81, u82, u83, u84, u85, u86, u87, u88, u89, u90, u91, u92, u93], defers := [] } ∧ Aside0 (tok_source_strung.g K a0 a1 n out deep p = some R) ∧ 0 ≤ p ∧ Aside0 (IsBd (w.heap.size + 1) (w.heap.size + 1) out w') ∧ Aside0 (Below w.heap.size w w') ∧ Aside0 (w'.heap[w.heap.size]? = some (.cells Z 40 (0, 0))) ∧ w.heap.size + 2 ≤ w'.heap.size
set_option maxHeartbeats 4000000 in
set_option maxRecDepth 1000000 in
theorem tok_source_strung.calls (k : Nat) (a0 : ByteArray) (a1 : Int) (r1 : Int) (r2 : Int) (r3 : Int) (r4 : ByteArray) (r5 : Int) (r6 : Int) (w : World) (h : tok_source_strung.f k a0 a1 = some (r1, r2, r3, r4, r5, r6)) :
  Calls Tryz.prog 44 #[.string a0, .int .i64 a1] w fun e w' => e = .returned (.tuple #[.agg #[.int .i64 r1, .int .i64 r2, .int .i64 r3, .string r4], .int .i64 r5, .int .i64 r6]) ∧ Below w.heap.size w w' := by
 unfold tok_source_strung.f at h
 split at h
 case isFalse => cases h
 rename_i hb
 obtain ⟨hb0, hb1⟩ := hb
 have H := Aside0.mk h
 clear h
 generalize hZ : (#[Value.int IntKind.i64 0, Value.int IntKind.i64 0, Value.int IntKind.i64 0, Value.string ⟨#[]⟩] : Array Value) = Z
 have hzs : Z.size = 4 := by rw [← hZ]; rfl
 have HZ := Aside0.mk hZ
 clear hZ
 go_enter Tryz.func44, Tryz.ntmps44
 go_wp2
 refine wp_scope_once 0 (StrJ k a0 a1 (r1, r2, r3, r4, r5, r6) Z w) (fun a' _ => a0.size + 1 - (intOf (a'.tmps.getD 9 undef)).toNat) rfl ?pass ?first
 case first =>
  intro hp
  go_wp2
  go_step3
  rename_i hK
  refine hK _ _ (hp.out _ _ ⟨k, [], 1, a1 + 1, _, _, _, _, _, _, _, _, _, _, _, _, _, _, _, _, _, _, _, _, _, _, _, _, _, _, _, _, _, _, _, _, _, _, _, _, _, _, _, _, _, _, _, _, _, _, _, _, _, _, _, _, _, _, _, _, _, _, _, _, _, _, _, _, _, _, _, _, _, _, _, _, _, _, _, _, _, _, _, _, _, _, _, _, _, _, rfl, H, by omega, ⟨?_⟩, ⟨?_⟩, ⟨?_⟩, ?_⟩)
  ·have h := Lib.IsBuilderF.of (Lib.fresh_isBuilder 109 5 (w.alloc (.cells #[.int .i64 0, .int .i64 0, .int .i64 0, .string ⟨#[]⟩] 40)))
   rw [show (w.alloc (.cells #[.int .i64 0, .int .i64 0, .int .i64 0, .string ⟨#[]⟩] 40)).heap.size = w.heap.size + 1 from Array.size_push ..] at h
   exact h
  ·exact below_alloc (below_alloc (Below.refl _ w) _) _
  ·rw [← HZ.out]
   show ((w.heap.push _).push _)[w.heap.size]? = _
   rw [Array.getElem?_push, if_neg (by rw [Array.size_push]; omega), Array.getElem?_push_size]
  ·simp
 case pass =>
  rintro a' w' ⟨n, out, deep, p, u2, u3, u10, u11, u12, u13, u14, u15, u16, u17, u18, u19, u20, u21, u22, u23, u24, u25, u26, u27, u28, u29, u30, u31, u32, u33, u34, u35, u36, u37, u38, u39, u40, u41, u42, u43, u44, u45, u46, u47, u48, u49, u50, u51, u52, u53, u54, u55, u56, u57, u58, u59, u60, u61, u62, u63, u64, u65, u66, u67, u68, u69, u70, u71, u72, u73, u74, u75, u76, u77, u78, u79, u80, u81, u82, u83, u84, u85, u86, u87, u88, u89, u90, u91, u92, u93, rfl, HG, hp0, HI, HB, HZ1, hs⟩
  cases n with
  | zero => exact absurd HG.out (by simp [tok_source_strung.g])
  | succ n =>
  have hg := HG.out
  clear HG
  rw [tok_source_strung.g] at hg
  split at hg
  case isFalse => cases hg
  rename_i hc
  obtain ⟨ho, -, hp2, hd1, hd2, ha0⟩ := hc
  obtain ⟨rest, hfrom, hg⟩ := Option.bind_eq_some_iff.1 hg
  have HF := Aside0.mk hfrom
  have HG := Aside0.mk hg
  have HLT := Aside0.mk (fun h => from_lt hfrom hp0 h)
  clear hfrom hg
  go_wp2_with fail
  with_reducible refine (tok_source_from.calls a0 p rest _ HF.out).mono ?_
  rintro e W1 ⟨rfl, hb⟩
  have HI1 := Aside0.mk (IsBd.below HI.out hb)
  have HZ2 : Aside0 (W1.heap[w.heap.size]? = some (.cells Z 40 (0, 0))) := ⟨(hb.block w.heap.size (by omega)).trans HZ1.out⟩
  have HB1 : Aside0 (Below w.heap.size w W1) := ⟨below_step HB.out hb⟩
  have hs1 : w.heap.size + 2 ≤ W1.heap.size := by have := hb.size; omega
  clear hb HZ1 HB HI
  have hg := HG.out
  clear HG
  by_cases h0 : rest.size = 0
  ·rw [if_pos h0] at hg
   have hr : rest = ⟨#[]⟩ := by
    apply ByteArray.ext
    exact Array.size_eq_zero_iff.1 h0
   subst hr
   simp only [Option.some.injEq, Prod.mk.injEq] at hg
   obtain ⟨rfl, rfl, rfl, rfl, rfl, rfl⟩ := hg
   clear h0 HLT HF
   go_wp2_with (refine wpList_store_row rfl 40 (.tmp 4) (.tmp 22) rfl w.heap.size #[.int .i64 0, .int .i64 0, .int .i64 0, .string ⟨#[]⟩] rfl rfl 40 _ HZ2.out tok_info (by rw [hzs]; rfl) (tok_one _ _ _ _) ?_)
   simp only [Exit.jump]
   refine bodyPost_ret (v := .tuple #[.agg #[.int .i64 0, .int .i64 0, .int .i64 0, .string ⟨#[]⟩], .int .i64 a0.size, .int .i64 2]) ?_ rfl ⟨rfl, below_setRow HB1.out (Nat.le_refl _) _⟩
   exact results_ctt (fn := Tryz.f44) (p := 4) (u := 5) (v := 6) (ty := 40) rfl _ _ w.heap.size 40 _ (0, 0) _ rfl (setRow_heap W1 w.heap.size _ _ 40 (0, 0) HZ2.out) Tryz.underlying40 rfl tok_info
  rw [if_neg h0] at hg
  obtain ⟨hlt, hrs⟩ := HLT.out h0
  obtain ⟨c, hbt, hc0⟩ := strung_bt rest h0
  rw [hbt] at hg
  have h00 : 0 < rest.size := by omega
  have hne : (rest.toList == ([] : List UInt8)) = false := by
   rw [beq_eq_false_iff_ne]
   intro e
   rw [toList_data] at e
   apply h0
   rw [size_list, e]
   rfl
  clear HLT HF hbt h0
  by_cases e92 : c = 92
  ·subst e92
   rw [if_pos (show (((92 : UInt8).toNat : Nat) : Int) = 92 from rfl)] at hg
   obtain ⟨⟨eb, en⟩, hesc, hg⟩ := Option.bind_eq_some_iff.1 hg
   dsimp only at hg
   have HE := Aside0.mk hesc
   have HG := Aside0.mk hg
   have h01 : 1 ≤ rest.size := by omega
   clear hesc hg
   go_wp2_with fail
   with_reducible refine (tok_escaped.calls k _ eb en _ HE.out).mono ?_
   rintro e W2 ⟨rfl, hb⟩
   have HI3 := Aside0.mk (IsBd.below HI1.out hb)
   have HZ3 : Aside0 (W2.heap[w.heap.size]? = some (.cells Z 40 (0, 0))) := ⟨(hb.block w.heap.size (by omega)).trans HZ2.out⟩
   have HB3 : Aside0 (Below w.heap.size w W2) := ⟨below_step HB1.out hb⟩
   have hs2 : w.heap.size + 2 ≤ W2.heap.size := by have := hb.size; omega
   clear hb HZ2 HB1 HI1 HE
   have hg := HG.out
   clear HG
   by_cases hn : en = 0
   ·subst hn
    rw [if_pos rfl] at hg
    simp only [Option.some.injEq, Prod.mk.injEq] at hg
    obtain ⟨rfl, rfl, rfl, rfl, rfl, rfl⟩ := hg
    go_wp2_with (refine wpList_store_row rfl 40 (.tmp 4) (.tmp 37) rfl w.heap.size #[.int .i64 0, .int .i64 0, .int .i64 0, .string ⟨#[]⟩] rfl rfl 40 _ HZ3.out tok_info (by rw [hzs]; rfl) (tok_one _ _ _ _) ?_)
    simp only [Exit.jump]
    refine bodyPost_ret (v := .tuple #[.agg #[.int .i64 0, .int .i64 0, .int .i64 0, .string ⟨#[]⟩], .int .i64 a0.size, .int .i64 2]) ?_ rfl ⟨rfl, below_setRow HB3.out (Nat.le_refl _) _⟩
    exact results_ctt (fn := Tryz.f44) (p := 4) (u := 5) (v := 6) (ty := 40) rfl _ _ w.heap.size 40 _ (0, 0) _ rfl (setRow_heap W2 w.heap.size _ _ 40 (0, 0) HZ3.out) Tryz.underlying40 rfl tok_info
   ·rw [if_neg hn] at hg
    split at hg
    case isFalse => cases hg
    rename_i hcn
    obtain ⟨hn0, hn1, hol⟩ := hcn
    have hen : (en == 0) = false := beq_eq_false_iff_ne.2 hn
    have HG := Aside0.mk hg
    have HOL := Aside0.mk hol
    clear hg hol
    go_wp2_with (go_at_call 71; refine (WriteString_k (w.heap.size + 1) (w.heap.size + 1) _ eb _ HI3.out ?c1 ?c2).mono ?_)
    case c1 => rw [Lib.byteCells_length]; have := HOL.out; omega
    case c2 => omega
    rintro e W3 ⟨rfl, h3, b3, -⟩
    have HI4 : Aside0 (IsBd (w.heap.size + 1) (w.heap.size + 1) (out ++ eb.data.toList) W3) := ⟨by rw [IsBd, Lib.byteCells_append]; exact .inr h3⟩
    have HZ4 : Aside0 (W3.heap[w.heap.size]? = some (.cells Z 40 (0, 0))) := ⟨(b3.block w.heap.size (by omega)).trans HZ3.out⟩
    have HB4 : Aside0 (Below w.heap.size w W3) := ⟨HB3.out.trans (b3.mono (by omega))⟩
    have hs3 : w.heap.size + 2 ≤ W3.heap.size := by have := b3.size; omega
    clear h3 b3 HZ3 HB3 HI3
    go_wp2
    go_step3
    refine ⟨rfl, ⟨n, _, deep, p + (1 + en), _, _, _, _, _, _, _, _, _, _, _, _, _, _, _, _, _, _, _, _, _, _, _, _, _, _, _, _, _, _, _, _, _, _, _, _, _, _, _, _, _, _, _, _, _, _, _, _, _, _, _, _, _, _, _, _, _, _, _, _, _, _, _, _, _, _, _, _, _, _, _, _, _, _, _, _, _, _, _, _, _, _, _, _, _, _, rfl, HG, by omega, HI4, HB4, HZ4, hs3⟩, ?_⟩
    simp [intOf]
    omega
  rw [if_neg (show ¬ (c.toNat : Int) = 92 from fun e => e92 (UInt8.toNat_inj.1 (by show c.toNat = 92; omega)))] at hg
  by_cases e41 : c = 41
  ·subst e41
   by_cases d1 : deep = 1
   ·subst d1
    rw [if_pos (show (((41 : UInt8).toNat : Nat) : Int) = 41 ∧ (1 : Int) = 1 from ⟨rfl, rfl⟩)] at hg
    simp only [Option.some.injEq, Prod.mk.injEq] at hg
    obtain ⟨rfl, rfl, rfl, rfl, rfl, rfl⟩ := hg
    go_wp2_with (go_at_call 67; refine (Tryz.Builder_String_any_k (w.heap.size + 1) (w.heap.size + 1) _ _ HI1.out ?c1).mono ?_)
    case c1 => omega
    rintro e W2 ⟨rfl, -, b2, -⟩
    have HZ3 : Aside0 (W2.heap[w.heap.size]? = some (.cells Z 40 (0, 0))) := ⟨(b2.block w.heap.size (by omega)).trans HZ2.out⟩
    have HB3 : Aside0 (Below w.heap.size w W2) := ⟨HB1.out.trans (b2.mono (by omega))⟩
    clear b2 HZ2 HB1 HI1
    go_wp2_with (refine wpList_store_row rfl 40 (.tmp 4) (.tmp 56) rfl w.heap.size #[.int .i64 5, .int .i64 a1, .int .i64 0, .string ⟨out.toArray⟩] rfl rfl 40 _ HZ3.out tok_info (by rw [hzs]; rfl) (tok_one _ _ _ _) ?_)
    simp only [Exit.jump]
    refine bodyPost_ret (v := .tuple #[.agg #[.int .i64 5, .int .i64 a1, .int .i64 0, .string ⟨out.toArray⟩], .int .i64 (p + 1), .int .i64 0]) ?_ rfl ⟨rfl, below_setRow HB3.out (Nat.le_refl _) _⟩
    exact results_ctt (fn := Tryz.f44) (p := 4) (u := 5) (v := 6) (ty := 40) rfl _ _ w.heap.size 40 _ (0, 0) _ rfl (setRow_heap W2 w.heap.size _ _ 40 (0, 0) HZ3.out) Tryz.underlying40 rfl tok_info
   ·rw [if_neg (fun e => d1 e.2), if_neg (show ¬ ((((41 : UInt8).toNat : Nat) : Int) = 40 ∧ deep = 32) from fun e => absurd e.1 (by decide)), show deepOf (((41 : UInt8).toNat : Nat) : Int) deep = deep - 1 from rfl, show (((41 : UInt8).toNat : Nat) : Int).toNat.toUInt8 = 41 from rfl] at hg
    have dd1 : (deep == 1) = false := beq_eq_false_iff_ne.2 d1
    obtain ⟨m, hln, hg⟩ := Option.bind_eq_some_iff.1 hg
    have HL := Aside0.mk hln
    have HG := Aside0.mk hg
    clear hln hg
    go_wp2_with fail
    with_reducible refine (tok_line.calls rest m _ HL.out).mono ?_
    rintro e W2 ⟨rfl, ⟨nd, rfl⟩⟩
    have HI3 : Aside0 (IsBd (w.heap.size + 1) (w.heap.size + 1) out (W1.drewN nd)) := HI1
    have HZ3 : Aside0 ((W1.drewN nd).heap[w.heap.size]? = some (.cells Z 40 (0, 0))) := HZ2
    have HB3 : Aside0 (Below w.heap.size w (W1.drewN nd)) := ⟨pw_below_drewN HB1.out nd⟩
    have hs2 : w.heap.size + 2 ≤ (W1.drewN nd).heap.size := hs1
    clear HZ2 HB1 HI1 hs1
    generalize W1.drewN nd = W2 at HI3 HZ3 HB3 hs2 ⊢
    have hg := HG.out
    clear HG
    split at hg
    ·rename_i hm
     have HG := Aside0.mk hg
     have hm2 : decide (0 < m) = true := decide_eq_true hm.1
     have hm0 := hm.1
     have hm1 := hm.2
     clear hg hm
     go_wp2_with (go_at_call 66; refine (WriteByte_k (w.heap.size + 1) (w.heap.size + 1) _ 10 _ HI3.out ?c1 ?c2).mono ?_)
     case c1 => rw [Lib.byteCells_length]; omega
     case c2 => omega
     rintro e W3 ⟨rfl, h3, b3, -⟩
     have HI4 : Aside0 (IsBd (w.heap.size + 1) (w.heap.size + 1) (out ++ [10]) W3) := ⟨by rw [IsBd, Lib.byteCells_append]; exact .inr h3⟩
     have HZ4 : Aside0 (W3.heap[w.heap.size]? = some (.cells Z 40 (0, 0))) := ⟨(b3.block w.heap.size (by omega)).trans HZ3.out⟩
     have HB4 : Aside0 (Below w.heap.size w W3) := ⟨HB3.out.trans (b3.mono (by omega))⟩
     have hs3 : w.heap.size + 2 ≤ W3.heap.size := by have := b3.size; omega
     clear h3 b3 HZ3 HB3 HI3
     go_wp2
     go_step3
     refine ⟨rfl, ⟨n, _, deep - 1, p + m, _, _, _, _, _, _, _, _, _, _, _, _, _, _, _, _, _, _, _, _, _, _, _, _, _, _, _, _, _, _, _, _, _, _, _, _, _, _, _, _, _, _, _, _, _, _, _, _, _, _, _, _, _, _, _, _, _, _, _, _, _, _, _, _, _, _, _, _, _, _, _, _, _, _, _, _, _, _, _, _, _, _, _, _, _, _, rfl, HG, by omega, HI4, HB4, HZ4, hs3⟩, ?_⟩
     simp [intOf]
     omega
    ·split at hg
     case isFalse => cases hg
     rename_i hm
     subst hm
     have HG := Aside0.mk hg
     clear hg
     go_wp2_with (go_at_call 66; refine (WriteByte_k (w.heap.size + 1) (w.heap.size + 1) _ 41 _ HI3.out ?c1 ?c2).mono ?_)
     case c1 => rw [Lib.byteCells_length]; omega
     case c2 => omega
     rintro e W3 ⟨rfl, h3, b3, -⟩
     have HI4 : Aside0 (IsBd (w.heap.size + 1) (w.heap.size + 1) (out ++ [41]) W3) := ⟨by rw [IsBd, Lib.byteCells_append]; exact .inr h3⟩
     have HZ4 : Aside0 (W3.heap[w.heap.size]? = some (.cells Z 40 (0, 0))) := ⟨(b3.block w.heap.size (by omega)).trans HZ3.out⟩
     have HB4 : Aside0 (Below w.heap.size w W3) := ⟨HB3.out.trans (b3.mono (by omega))⟩
     have hs3 : w.heap.size + 2 ≤ W3.heap.size := by have := b3.size; omega
     clear h3 b3 HZ3 HB3 HI3
     go_wp2
     go_step3
     refine ⟨rfl, ⟨n, _, deep - 1, p + 1, _, _, _, _, _, _, _, _, _, _, _, _, _, _, _, _, _, _, _, _, _, _, _, _, _, _, _, _, _, _, _, _, _, _, _, _, _, _, _, _, _, _, _, _, _, _, _, _, _, _, _, _, _, _, _, _, _, _, _, _, _, _, _, _, _, _, _, _, _, _, _, _, _, _, _, _, _, _, _, _, _, _, _, _, _, _, rfl, HG, by omega, HI4, HB4, HZ4, hs3⟩, ?_⟩
     simp [intOf]
     omega
  rw [if_neg (show ¬ ((c.toNat : Int) = 41 ∧ deep = 1) from fun e => e41 (UInt8.toNat_inj.1 (by show c.toNat = 41; omega)))] at hg
  by_cases e40 : c = 40
  ·subst e40
   by_cases d32 : deep = 32
   ·subst d32
    rw [if_pos (show (((40 : UInt8).toNat : Nat) : Int) = 40 ∧ (32 : Int) = 32 from ⟨rfl, rfl⟩)] at hg
    simp only [Option.some.injEq, Prod.mk.injEq] at hg
    obtain ⟨rfl, rfl, rfl, rfl, rfl, rfl⟩ := hg
    go_wp2_with (refine wpList_store_row rfl 40 (.tmp 4) (.tmp 73) rfl w.heap.size #[.int .i64 0, .int .i64 0, .int .i64 0, .string ⟨#[]⟩] rfl rfl 40 _ HZ2.out tok_info (by rw [hzs]; rfl) (tok_one _ _ _ _) ?_)
    simp only [Exit.jump]
    refine bodyPost_ret (v := .tuple #[.agg #[.int .i64 0, .int .i64 0, .int .i64 0, .string ⟨#[]⟩], .int .i64 p, .int .i64 5]) ?_ rfl ⟨rfl, below_setRow HB1.out (Nat.le_refl _) _⟩
    exact results_ctt (fn := Tryz.f44) (p := 4) (u := 5) (v := 6) (ty := 40) rfl _ _ w.heap.size 40 _ (0, 0) _ rfl (setRow_heap W1 w.heap.size _ _ 40 (0, 0) HZ2.out) Tryz.underlying40 rfl tok_info
   ·rw [if_neg (fun e => d32 e.2), show deepOf (((40 : UInt8).toNat : Nat) : Int) deep = deep + 1 from rfl, show (((40 : UInt8).toNat : Nat) : Int).toNat.toUInt8 = 40 from rfl] at hg
    have dd32 : (deep == 32) = false := beq_eq_false_iff_ne.2 d32
    obtain ⟨m, hln, hg⟩ := Option.bind_eq_some_iff.1 hg
    have HL := Aside0.mk hln
    have HG := Aside0.mk hg
    clear hln hg
    go_wp2_with fail
    with_reducible refine (tok_line.calls rest m _ HL.out).mono ?_
    rintro e W2 ⟨rfl, ⟨nd, rfl⟩⟩
    have HI3 : Aside0 (IsBd (w.heap.size + 1) (w.heap.size + 1) out (W1.drewN nd)) := HI1
    have HZ3 : Aside0 ((W1.drewN nd).heap[w.heap.size]? = some (.cells Z 40 (0, 0))) := HZ2
    have HB3 : Aside0 (Below w.heap.size w (W1.drewN nd)) := ⟨pw_below_drewN HB1.out nd⟩
    have hs2 : w.heap.size + 2 ≤ (W1.drewN nd).heap.size := hs1
    clear HZ2 HB1 HI1 hs1
    generalize W1.drewN nd = W2 at HI3 HZ3 HB3 hs2 ⊢
    have hg := HG.out
    clear HG
    split at hg
    ·rename_i hm
     have HG := Aside0.mk hg
     have hm2 : decide (0 < m) = true := decide_eq_true hm.1
     have hm0 := hm.1
     have hm1 := hm.2
     clear hg hm
     go_wp2_with (go_at_call 66; refine (WriteByte_k (w.heap.size + 1) (w.heap.size + 1) _ 10 _ HI3.out ?c1 ?c2).mono ?_)
     case c1 => rw [Lib.byteCells_length]; omega
     case c2 => omega
     rintro e W3 ⟨rfl, h3, b3, -⟩
     have HI4 : Aside0 (IsBd (w.heap.size + 1) (w.heap.size + 1) (out ++ [10]) W3) := ⟨by rw [IsBd, Lib.byteCells_append]; exact .inr h3⟩
     have HZ4 : Aside0 (W3.heap[w.heap.size]? = some (.cells Z 40 (0, 0))) := ⟨(b3.block w.heap.size (by omega)).trans HZ3.out⟩
     have HB4 : Aside0 (Below w.heap.size w W3) := ⟨HB3.out.trans (b3.mono (by omega))⟩
     have hs3 : w.heap.size + 2 ≤ W3.heap.size := by have := b3.size; omega
     clear h3 b3 HZ3 HB3 HI3
     go_wp2
     go_step3
     refine ⟨rfl, ⟨n, _, deep + 1, p + m, _, _, _, _, _, _, _, _, _, _, _, _, _, _, _, _, _, _, _, _, _, _, _, _, _, _, _, _, _, _, _, _, _, _, _, _, _, _, _, _, _, _, _, _, _, _, _, _, _, _, _, _, _, _, _, _, _, _, _, _, _, _, _, _, _, _, _, _, _, _, _, _, _, _, _, _, _, _, _, _, _, _, _, _, _, _, rfl, HG, by omega, HI4, HB4, HZ4, hs3⟩, ?_⟩
     simp [intOf]
     omega
    ·split at hg
     case isFalse => cases hg
     rename_i hm
     subst hm
     have HG := Aside0.mk hg
     clear hg
     go_wp2_with (go_at_call 66; refine (WriteByte_k (w.heap.size + 1) (w.heap.size + 1) _ 40 _ HI3.out ?c1 ?c2).mono ?_)
     case c1 => rw [Lib.byteCells_length]; omega
     case c2 => omega
     rintro e W3 ⟨rfl, h3, b3, -⟩
     have HI4 : Aside0 (IsBd (w.heap.size + 1) (w.heap.size + 1) (out ++ [40]) W3) := ⟨by rw [IsBd, Lib.byteCells_append]; exact .inr h3⟩
     have HZ4 : Aside0 (W3.heap[w.heap.size]? = some (.cells Z 40 (0, 0))) := ⟨(b3.block w.heap.size (by omega)).trans HZ3.out⟩
     have HB4 : Aside0 (Below w.heap.size w W3) := ⟨HB3.out.trans (b3.mono (by omega))⟩
     have hs3 : w.heap.size + 2 ≤ W3.heap.size := by have := b3.size; omega
     clear h3 b3 HZ3 HB3 HI3
     go_wp2
     go_step3
     refine ⟨rfl, ⟨n, _, deep + 1, p + 1, _, _, _, _, _, _, _, _, _, _, _, _, _, _, _, _, _, _, _, _, _, _, _, _, _, _, _, _, _, _, _, _, _, _, _, _, _, _, _, _, _, _, _, _, _, _, _, _, _, _, _, _, _, _, _, _, _, _, _, _, _, _, _, _, _, _, _, _, _, _, _, _, _, _, _, _, _, _, _, _, _, _, _, _, _, _, rfl, HG, by omega, HI4, HB4, HZ4, hs3⟩, ?_⟩
     simp [intOf]
     omega
  rw [if_neg (show ¬ ((c.toNat : Int) = 40 ∧ deep = 32) from fun e => e40 (UInt8.toNat_inj.1 (by show c.toNat = 40; omega)))] at hg
  have n92 : (c.toNat : Int) ≠ 92 := fun e => e92 (UInt8.toNat_inj.1 (by show c.toNat = 92; omega))
  have n41 : (c.toNat : Int) ≠ 41 := fun e => e41 (UInt8.toNat_inj.1 (by show c.toNat = 41; omega))
  have n40 : (c.toNat : Int) ≠ 40 := fun e => e40 (UInt8.toNat_inj.1 (by show c.toNat = 40; omega))
  rw [show deepOf (c.toNat : Int) deep = deep from by unfold deepOf; rw [if_neg n41, if_neg n40], show (c.toNat : Int).toNat.toUInt8 = c from by rw [Int.toNat_natCast]; exact UInt8.ofNat_toNat] at hg
  replace n92 : ((c.toNat : Int) == 92) = false := beq_eq_false_iff_ne.2 n92
  replace n41 : ((c.toNat : Int) == 41) = false := beq_eq_false_iff_ne.2 n41
  replace n40 : ((c.toNat : Int) == 40) = false := beq_eq_false_iff_ne.2 n40
  have h256 := c.toNat_lt
  clear e92 e41 e40
  obtain ⟨m, hln, hg⟩ := Option.bind_eq_some_iff.1 hg
  have HL := Aside0.mk hln
  have HG := Aside0.mk hg
  clear hln hg
  go_wp2_with fail
  with_reducible refine (tok_line.calls rest m _ HL.out).mono ?_
  rintro e W2 ⟨rfl, ⟨nd, rfl⟩⟩
  have HI3 : Aside0 (IsBd (w.heap.size + 1) (w.heap.size + 1) out (W1.drewN nd)) := HI1
  have HZ3 : Aside0 ((W1.drewN nd).heap[w.heap.size]? = some (.cells Z 40 (0, 0))) := HZ2
  have HB3 : Aside0 (Below w.heap.size w (W1.drewN nd)) := ⟨pw_below_drewN HB1.out nd⟩
  have hs2 : w.heap.size + 2 ≤ (W1.drewN nd).heap.size := hs1
  clear HZ2 HB1 HI1 hs1
  generalize W1.drewN nd = W2 at HI3 HZ3 HB3 hs2 ⊢
  have hg := HG.out
  clear HG
  split at hg
  ·rename_i hm
   have HG := Aside0.mk hg
   have hm2 : decide (0 < m) = true := decide_eq_true hm.1
   have hm0 := hm.1
   have hm1 := hm.2
   clear hg hm
   go_wp2_with (go_at_call 66; refine (WriteByte_k (w.heap.size + 1) (w.heap.size + 1) _ 10 _ HI3.out ?c1 ?c2).mono ?_)
   case c1 => rw [Lib.byteCells_length]; omega
   case c2 => omega
   rintro e W3 ⟨rfl, h3, b3, -⟩
   have HI4 : Aside0 (IsBd (w.heap.size + 1) (w.heap.size + 1) (out ++ [10]) W3) := ⟨by rw [IsBd, Lib.byteCells_append]; exact .inr h3⟩
   have HZ4 : Aside0 (W3.heap[w.heap.size]? = some (.cells Z 40 (0, 0))) := ⟨(b3.block w.heap.size (by omega)).trans HZ3.out⟩
   have HB4 : Aside0 (Below w.heap.size w W3) := ⟨HB3.out.trans (b3.mono (by omega))⟩
   have hs3 : w.heap.size + 2 ≤ W3.heap.size := by have := b3.size; omega
   clear h3 b3 HZ3 HB3 HI3
   go_wp2
   go_step3
   refine ⟨rfl, ⟨n, _, deep, p + m, _, _, _, _, _, _, _, _, _, _, _, _, _, _, _, _, _, _, _, _, _, _, _, _, _, _, _, _, _, _, _, _, _, _, _, _, _, _, _, _, _, _, _, _, _, _, _, _, _, _, _, _, _, _, _, _, _, _, _, _, _, _, _, _, _, _, _, _, _, _, _, _, _, _, _, _, _, _, _, _, _, _, _, _, _, _, rfl, HG, by omega, HI4, HB4, HZ4, hs3⟩, ?_⟩
   simp [intOf]
   omega
  ·split at hg
   case isFalse => cases hg
   rename_i hm
   subst hm
   have HG := Aside0.mk hg
   clear hg
   go_wp2_with (go_at_call 66; refine (WriteByte_k (w.heap.size + 1) (w.heap.size + 1) _ (c.toNat : Int) _ HI3.out ?c1 ?c2).mono ?_)
   case c1 => rw [Lib.byteCells_length]; omega
   case c2 => omega
   rintro e W3 ⟨rfl, h3, b3, -⟩
   have HI4 : Aside0 (IsBd (w.heap.size + 1) (w.heap.size + 1) (out ++ [c]) W3) := ⟨by rw [IsBd, Lib.byteCells_append]; exact .inr h3⟩
   have HZ4 : Aside0 (W3.heap[w.heap.size]? = some (.cells Z 40 (0, 0))) := ⟨(b3.block w.heap.size (by omega)).trans HZ3.out⟩
   have HB4 : Aside0 (Below w.heap.size w W3) := ⟨HB3.out.trans (b3.mono (by omega))⟩
   have hs3 : w.heap.size + 2 ≤ W3.heap.size := by have := b3.size; omega
   clear h3 b3 HZ3 HB3 HI3
   go_wp2
   go_step3
   refine ⟨rfl, ⟨n, _, deep, p + 1, _, _, _, _, _, _, _, _, _, _, _, _, _, _, _, _, _, _, _, _, _, _, _, _, _, _, _, _, _, _, _, _, _, _, _, _, _, _, _, _, _, _, _, _, _, _, _, _, _, _, _, _, _, _, _, _, _, _, _, _, _, _, _, _, _, _, _, _, _, _, _, _, _, _, _, _, _, _, _, _, _, _, _, _, _, _, rfl, HG, by omega, HI4, HB4, HZ4, hs3⟩, ?_⟩
   simp [intOf]
   omega
end Go.Proofs.YtjplnhdplpiogaaGreatDoor.M
end
section
namespace Go.Proofs.YtjplnhdplpiogaaGreatDoor.M
open Go.RowKit Go.Extern.Stop Go.Stop Go.Extern Go.Extern.Rtype Go.Proofs.YtjplnhdplpiogaaGreatDoorW.PrintWords
set_option linter.unusedVariables false
theorem isTypeOf (v : Value) (w : World) : (Extern.ReflectliteType.typeOf #[.iface 208 v]).run Tryz.prog w = .ok (.iface 185 (.agg #[.pointer (some ⟨8, 208, none⟩)])) w := by kernel_rfl
theorem isComparable (w : World) : ((Extern.ReflectliteType.method fun t => do noPackHeld "Comparable" t; (fun a => Value.bool a.comparable) <$> typeInfo t) #[.agg #[.pointer (some ⟨8, 208, none⟩)]]).run Tryz.prog w = .ok (.bool true) w := by kernel_rfl
theorem isMethodComparable (v : Value) (w : World) : (Go.method 359 185 v "Comparable").run Tryz.prog w = .ok (203, v) w := by kernel_rfl
theorem isComp : (Tryz.prog.info? 208).map (·.comparable) = some true := by kernel_rfl
theorem isSize : (Tryz.prog.info? 210).map (·.size) = some 1 := by kernel_rfl
theorem noIsE (v : Value) (xT : TypeId) (w : World) : (Instr.typeAssert (.iface 208 v) xT 187 true).run Tryz.prog w = .ok (.tuple #[.nilIface, .bool false]) w := run_typeAssert_lacksB Tryz.underlying187 (by kernel_rfl) (by kernel_rfl) v xT w
theorem noIsW (v : Value) (xT : TypeId) (w : World) : (Instr.typeAssert (.iface 181 v) xT 187 true).run Tryz.prog w = .ok (.tuple #[.nilIface, .bool false]) w := run_typeAssert_lacksB Tryz.underlying187 (by kernel_rfl) (by kernel_rfl) v xT w
theorem hasUnwrapW (v : Value) (xT : TypeId) (w : World) : (Instr.typeAssert (.iface 181 v) xT 190 true).run Tryz.prog w = .ok (.tuple #[.iface 181 v, .bool true]) w := run_typeAssert_hasB Tryz.underlying190 (by kernel_rfl) v xT w
theorem methodUnwrap (v : Value) (w : World) : (Go.method 359 181 v "Unwrap").run Tryz.prog w = .ok (199, v) w := by kernel_rfl
theorem is_nil (b : Addr) (w : World) :
  Calls Tryz.prog 98 #[.nilIface, .iface 208 (.pointer (some b))] w fun e w' => e = .returned (.bool false) ∧ w' = w := by
 have hn := run_eql_iface_nil_left (P := Tryz.prog) w 208 (.pointer (some b)) Tryz.underlying112
 go_enter Tryz.func98, Tryz.ntmps98
 go_wp2
 go_ret
 exact ⟨rfl, rfl⟩
set_option maxHeartbeats 1000000 in
set_option maxRecDepth 1000000 in
theorem is_wrap_same (pb : Nat) (b : Addr) (w : World) (h1 : w.cell? ⟨pb, 2, none⟩ = some (.iface 208 (.pointer (some b)))) :
  Calls Tryz.prog 98 #[.iface 181 (.pointer (some ⟨pb, 0, none⟩)), .iface 208 (.pointer (some b))] w fun e w' => e = .returned (.bool true) ∧ w' = w := by
 obtain ⟨i, hi, hcmp⟩ := Option.map_eq_some_iff.1 isComp
 obtain ⟨j, hj, hjs⟩ := Option.map_eq_some_iff.1 isSize
 have h8 := @run_callFunc_extern Tryz.prog 120 _ Extern.ReflectliteType.typeOf Tryz.func120 (by kernel_rfl) (by kernel_rfl) (by kernel_rfl) (by kernel_rfl)
 have h32 := @run_callFunc_extern Tryz.prog 203 _ (Extern.ReflectliteType.method fun t => do noPackHeld "Comparable" t; pure (.bool (← typeInfo t).comparable)) Tryz.func203 (by kernel_rfl) (by kernel_rfl) (by kernel_rfl) (by kernel_rfl)
 have tT := isTypeOf
 have cT := isComparable
 have mR := isMethodComparable
 have nE := noIsE
 have nW := noIsW
 have uW := hasUnwrapW
 have mU := methodUnwrap
 have heq := run_eql_iface_ptr_same (P := Tryz.prog) w b Tryz.underlying112 Tryz.underlying208 hi hcmp hj
 have hty := run_eql_iface_types (P := Tryz.prog) 181 208 (.pointer (some ⟨pb, 0, none⟩)) (.pointer (some b)) Tryz.underlying112 (by decide) w
 go_enter Tryz.func98, Tryz.ntmps98
 go_wp2
 refine wp_loop_rounds 2 ?_
 rw [rounds_succ]
 go_wp2
 rw [rounds_succ]
 go_wp2
 go_ret
 exact ⟨rfl, rfl⟩
end Go.Proofs.YtjplnhdplpiogaaGreatDoor.M
end
section
namespace Go.Proofs.YtjplnhdplpiogaaGreatDoor.M
open Go.RowKit Go.Proofs.YtjplnhdplpiogaaGreatDoorW.PrintWords
set_option linter.unusedVariables false
/-- A text's number, and the error's number: 3 no number, 4 too great. -/
def lexInt (l : List UInt8) : Int × Int := if wholeB l then (match Lib.parseIntB 32 l with | .ok v => (v, 0) | _ => (0, 4)) else (0, 3)
def lex_Int.f (a0 : ByteArray) : Option (Int × Int) := if a0.size ≤ 281474976710656 then some (lexInt a0.data.toList) else none
/-- Neither a number nor one that is too great. -/
def badNum {α : Type} : Lib.NumEnd α → Bool
 | .ok _ => false
 | .range => false
 | _ => true
theorem parseUintM_digits (M : Nat) : ∀ (l : List UInt8) (acc : Nat), l.all isDigB = true → badNum (Lib.parseUintM M acc l) = false
 | [], acc, _ => by simp [Lib.parseUintM, badNum]
 | c :: r, acc, h => by
  simp only [List.all_cons, Bool.and_eq_true, isDigB, decide_eq_true_eq] at h
  unfold Lib.parseUintM
  rw [if_pos ⟨h.1.1, h.1.2⟩]
  split
  ·rfl
  ·split
   ·rfl
   ·exact parseUintM_digits M r _ h.2
theorem parse_whole (l : List UInt8) (h : wholeB l = true) : badNum (Lib.parseIntB 32 l) = false := by
 match l with
 | [] => simp [wholeB, unsign] at h
 | c :: r =>
  have key : ∀ ds : List UInt8, ds ≠ [] → ds.all isDigB = true → badNum (Lib.parseUintB 32 ds) = false := by
   intro ds h1 h2
   unfold Lib.parseUintB
   rw [if_neg h1]
   exact parseUintM_digits _ _ _ h2
  have hu : (if c.toNat = 43 ∨ c.toNat = 45 then r else c :: r) = unsign (c :: r) := by
   have e1 : (c == 43) = decide (c.toNat = 43) := by rw [Bool.eq_iff_iff, beq_iff_eq, decide_eq_true_eq, ← UInt8.toNat_inj]; rfl
   have e2 : (c == 45) = decide (c.toNat = 45) := by rw [Bool.eq_iff_iff, beq_iff_eq, decide_eq_true_eq, ← UInt8.toNat_inj]; rfl
   simp [unsign, e1, e2]
  simp only [wholeB, Bool.and_eq_true, Bool.not_eq_true', List.isEmpty_eq_false_iff] at h
  have hk := key _ h.1 h.2
  unfold Lib.parseIntB
  simp only
  rw [hu]
  cases hp : Lib.parseUintB 32 (unsign (c :: r)) with
  | ok u =>
   simp only
   split
   ·rfl
   ·split
    ·rfl
    ·split <;> rfl
  | range => rfl
  | _ => rw [hp] at hk; exact absurd hk (by decide)
set_option maxHeartbeats 1000000 in
set_option maxRecDepth 1000000 in
theorem lex_Int.calls (a0 : ByteArray) (r1 r2 : Int) (w : World) (hG : GW w) (h : lex_Int.f a0 = some (r1, r2)) :
  Calls Tryz.prog 73 #[.string a0] w fun e w' => e = .returned (.tuple #[.int .i64 r1, .int .i64 r2]) ∧ Below w.heap.size w w' := by
 unfold lex_Int.f at h
 split at h
 case isFalse => cases h
 rename_i hl
 have he := Option.some.inj h
 clear h
 have hwh := whole_eq a0 (by omega)
 have HG := Aside0.mk hG
 clear hG
 unfold lexInt at he
 cases hb : wholeB a0.data.toList with
 | false =>
  rw [hb] at he hwh
  obtain ⟨rfl, rfl⟩ : 0 = r1 ∧ 3 = r2 := by simpa using he
  have HW := Aside0.mk hwh
  clear hwh he hb
  go_enter Tryz.func73, Tryz.ntmps73
  go_wp2_with (go_at_call 96; with_reducible refine (lex_whole.calls _ _ _ HW.out).mono ?_)
  rintro e w1 ⟨rfl, b1⟩
  go_wp2
  go_ret2
  exact ⟨rfl, b1⟩
 | true =>
  rw [hb] at he hwh
  have hns := parse_whole _ hb
  have HW := Aside0.mk hwh
  simp only [if_true] at he
  cases hp : Lib.parseIntB 32 a0.data.toList with
  | ok v =>
   rw [hp] at he
   obtain ⟨rfl, rfl⟩ : v = r1 ∧ 0 = r2 := by simpa using he
   have HP := Aside0.mk hp
   clear hwh he hb hp hns
   go_enter Tryz.func73, Tryz.ntmps73
   go_wp2_with (go_at_call 96; with_reducible refine (lex_whole.calls _ _ _ HW.out).mono ?_)
   rintro e w1 ⟨rfl, b1⟩
   go_wp2_with (go_at_call 97; with_reducible refine (Tryz.strconv_ParseInt_10_at32_ok _ (by omega) _ HP.out _).mono ?_)
   rintro e w2 ⟨rfl, hw2⟩
   have b2 : Below w.heap.size w w2 := by
    rcases hw2 with rfl | ⟨t, rfl⟩
    ·exact b1
    ·exact below_then b1 b1.size (Lib.bytesWorld_below _ _ _)
   clear hw2
   obtain ⟨a, ha⟩ := (GW.below b2 HG.out).range
   go_wp2_with (go_at_call 98; with_reducible refine (is_nil _ _).mono ?_)
   rintro e w3 ⟨rfl, rfl⟩
   go_wp2
   go_ret2
   exact ⟨rfl, b2⟩
  | range =>
   rw [hp] at he
   obtain ⟨rfl, rfl⟩ : 0 = r1 ∧ 4 = r2 := by simpa using he
   have HP := Aside0.mk hp
   clear hwh he hb hp hns
   go_enter Tryz.func73, Tryz.ntmps73
   go_wp2_with (go_at_call 96; with_reducible refine (lex_whole.calls _ _ _ HW.out).mono ?_)
   rintro e w1 ⟨rfl, b1⟩
   obtain ⟨a, ha⟩ := (GW.below b1 HG.out).range
   have HA := Aside0.mk ha
   clear ha
   go_wp2_with (go_at_call 97; with_reducible refine (Tryz.strconv_ParseInt_10_at32_range _ (by omega) HP.out _ _ HA.out (.inr ⟨_, _, rfl⟩)).mono ?_)
   rintro e w2 ⟨N, rfl, hN, hN2, b2⟩
   have ha2 := pw_cell_below b2 HA.out
   have hc2 : w2.cell? ⟨N, 2, none⟩ = some (.iface 208 (.pointer (some a))) := by rw [Lib.cell_of_heap hN2]; rfl
   replace b1 := below_then b1 b1.size b2
   clear hN hN2 b2
   go_wp2_with (go_at_call 98; with_reducible refine (is_wrap_same _ _ _ hc2).mono ?_)
   rintro e w3 ⟨rfl, rfl⟩
   go_wp2
   go_ret2
   exact ⟨rfl, b1⟩
  | _ => rw [hp] at hns; exact absurd hns (by decide)
end Go.Proofs.YtjplnhdplpiogaaGreatDoor.M
end
