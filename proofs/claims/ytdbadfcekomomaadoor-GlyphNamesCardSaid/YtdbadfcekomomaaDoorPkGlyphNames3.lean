/- each name of the list is there once, and has scalar values -/
/- Packed by this session's program hbpack.py out of this claim's own texts (Q4, Wr, Gf, Ge0, Pg, Q21, Q52, Q36, Q22, Q24, Q10, Q12, Q14, Q8, Q3, PureGlyphIs, PureGlyphNames, LawGlyphNames): the same declarations, without those that the claim does not use. -/
import Derived.Test.YtdbadfcekomomaaDoorPkGlyphNames2
import Derived.HandedShaped
import Derived.ProofKit
import Derived.LaidMore
import Derived.Lay
import Derived.Stop.Joined
import Derived.Shelf.Vars
import Derived.Stop.LaidErr
import Derived.Test.YtdbadfcekomomaaDoorRows
import Derived.Lib.IndexMore
import Derived.Lib.IndexAny
import Derived.Lib.Bytes
import Derived.WalkKit
import Derived.OpenShut
import Derived.ShutString
import Derived.ChangeOld
import Derived.Below
import Derived.SizedLaws
import Derived.SevenTiedAt
import Derived.Test.YtdbadfcekomomaaDoorCards
import Derived.Test.YtdbadfcekomomaaDoorTie
section
/- Laid by this session's program hbprint.py out of the translation: the function hornbook/hornbooklaw14.GlyphNames and its contract. -/
namespace Go.Proofs.YtdbadfcekomomaaDoor.M
open Go.RowKit Go.Proofs.YtdbadfcekomomaaDoorW.PrintWords Go.Proofs.YtdbadfcekomomaaDoorW.PrintLast Go.Proofs.YtdbadfcekomomaaDoorW.PrintMore
attribute [local go_sem] max2_int min2_int max_two min_two max_three min_three max_four min_four
set_option linter.unusedVariables false
set_option linter.unusedSimpArgs false
mutual
def hornbooklaw14_GlyphNames.j0 : Nat → Int → Bool → List ByteArray → Int → List Int → Bool → Option (Bool)
 | 0, _, _, _, _, _, _ => none
 | k + 1, x1, x5, x6, x7, x8, x46 => if x46 = true then (some false) else (hornbooklaw14_GlyphNames.l0 k x1 x5 x6 x7 x8 0)
def hornbooklaw14_GlyphNames.l0 : Nat → Int → Bool → List ByteArray → Int → List Int → Int → Option (Bool)
 | 0, _, _, _, _, _, _ => none
 | k + 1, x1, x5, x6, x7, x8, x10 => if x10 < (x8.length : Int) then (if 0 ≤ x10 then ((utf_Good.f (rd x8 x10)).bind fun t276 => (if t276 = true then (hornbooklaw14_GlyphNames.l0 k x1 x5 x6 x7 x8 (wrap64 (x10 + 1))) else (some false))) else (none)) else (if 0 < (x8.length : Int) then ((glyph_Back.f k (rd x8 0)).bind fun bt278 => (hornbooklaw14_GlyphNames.l1 k x1 x5 x6 x7 x8 (-1) bt278.1 bt278.2 0)) else (none))
def hornbooklaw14_GlyphNames.l1 : Nat → Int → Bool → List ByteArray → Int → List Int → Int → ByteArray → Bool → Int → Option (Bool)
 | 0, _, _, _, _, _, _, _, _, _ => none
 | k + 1, x1, x5, x6, x7, x8, x11, x12, x13, x14 => if x14 < (x6.length : Int) then (if 0 ≤ x14 then (if 0 ≤ x7 then (if x7 < (x6.length : Int) then (if (rdOf ByteArray.empty x6 x14).toList = (rdOf ByteArray.empty x6 x7).toList then (hornbooklaw14_GlyphNames.j3 k x1 x5 x6 x7 x8 x11 x12 x13 x14 (x14 != x7)) else (hornbooklaw14_GlyphNames.j3 k x1 x5 x6 x7 x8 x11 x12 x13 x14 false)) else (none)) else (none)) else (none)) else (if 0 ≤ x7 then (if x7 < (x6.length : Int) then ((some (([x1] : List Int) : List Int)).bind fun y281 => (if (rdOf ByteArray.empty x6 x7).size + (strOfNums y281).size ≤ 9223372036854775807 then ((glyph_Uni.f k ((rdOf ByteArray.empty x6 x7) ++ (strOfNums y281))).bind fun bt284 => (if x5 = true then (if (x8.length : Int) = 2 then (if bt284.2 = true then (some true) else (some ((bt284.1.length : Int) == 0))) else (if x11 ≥ 0 then (if x11 ≤ x7 then (if bt284.2 = true then (some true) else (some ((bt284.1.length : Int) == 0))) else (some false)) else (some false))) else (some false))) else (none))) else (none)) else (none))
def hornbooklaw14_GlyphNames.j3 : Nat → Int → Bool → List ByteArray → Int → List Int → Int → ByteArray → Bool → Int → Bool → Option (Bool)
 | 0, _, _, _, _, _, _, _, _, _, _ => none
 | k + 1, x1, x5, x6, x7, x8, x11, x12, x13, x14, x85 => if x85 = true then (some false) else (if x13 = true then (if 0 ≤ x14 then (if x14 < (x6.length : Int) then (if (rdOf ByteArray.empty x6 x14).toList = x12.toList then (if x11 < 0 then (hornbooklaw14_GlyphNames.l1 k x1 x5 x6 x7 x8 x14 x12 x13 (wrap64 (x14 + 1))) else (hornbooklaw14_GlyphNames.l1 k x1 x5 x6 x7 x8 x11 x12 x13 (wrap64 (x14 + 1)))) else (hornbooklaw14_GlyphNames.l1 k x1 x5 x6 x7 x8 x11 x12 x13 (wrap64 (x14 + 1)))) else (none)) else (none)) else (hornbooklaw14_GlyphNames.l1 k x1 x5 x6 x7 x8 x11 x12 x13 (wrap64 (x14 + 1))))
end
def hornbooklaw14_GlyphNames.f (k : Nat) (a0 : Int) (a1 : Int) : Option (Bool) := (hornbooklaw14_awake.f k).bind fun t266 => ((glyph_Names.f k).bind fun t267 => (if (t267.length : Int) = 0 then (some false) else (if 0 ≤ (Int.tmod (Go.bits .and .i64 a0 65535) (t267.length : Int)) then (if (Int.tmod (Go.bits .and .i64 a0 65535) (t267.length : Int)) < (t267.length : Int) then ((glyph_Uni.f k (rdOf ByteArray.empty t267 (Int.tmod (Go.bits .and .i64 a0 65535) (t267.length : Int)))).bind fun bt271 => (if bt271.2 = true then (if (bt271.1.length : Int) < 1 then (hornbooklaw14_GlyphNames.j0 k a1 t266 t267 (Int.tmod (Go.bits .and .i64 a0 65535) (t267.length : Int)) bt271.1 true) else (hornbooklaw14_GlyphNames.j0 k a1 t266 t267 (Int.tmod (Go.bits .and .i64 a0 65535) (t267.length : Int)) bt271.1 (decide ((bt271.1.length : Int) > 2)))) else (hornbooklaw14_GlyphNames.j0 k a1 t266 t267 (Int.tmod (Go.bits .and .i64 a0 65535) (t267.length : Int)) bt271.1 true))) else (none)) else (none))))
def hornbooklaw14_GlyphNames.T19 : Bool × List (List Nat × List Nat) := (true, [([], []), ([], []), ([0, 1], [0, 1]), ([2], [2]), ([], []), ([], []), ([4, 5], [4, 5]), ([6], [6]), ([3, 7], [3, 7]), ([8], [8]), ([9], [9]), ([9], [9]), ([10, 11, 9], [9, 10, 11]), ([9, 12], [9, 12])])
def hornbooklaw14_GlyphNames.B19 : List Nat := [0, 0, 3, 7, 0, 0, 48, 112, 255, 511, 1023, 1023, 4095, 8191]
theorem hornbooklaw14_GlyphNames.tab19 : rtab .any (opsOf Tryd.f4 19) = hornbooklaw14_GlyphNames.T19 := by kernel_rfl
theorem hornbooklaw14_GlyphNames.bits19 : waitsOk hornbooklaw14_GlyphNames.T19.2 hornbooklaw14_GlyphNames.B19 = true := by kernel_rfl
def hornbooklaw14_GlyphNames.T23 : Bool × List (List Nat × List Nat) := (true, [([], []), ([], []), ([0, 1], [0, 1]), ([2], [2]), ([], []), ([4], [4]), ([5], [5]), ([3, 6], [3, 6]), ([7], [7]), ([8], [8]), ([9], [9]), ([9], [9]), ([10, 8, 0, 1, 2, 3, 4, 5, 6, 7, 8, 9, 10], [10]), ([11, 12, 0, 1, 2, 3, 4, 5, 6, 7, 8, 9, 10, 11, 12], [11])])
def hornbooklaw14_GlyphNames.B23 : List Nat := [0, 0, 3, 7, 0, 16, 48, 127, 255, 511, 1023, 1023, 2047, 8191]
theorem hornbooklaw14_GlyphNames.tab23 : rtab .any (opsOf Tryd.f4 23) = hornbooklaw14_GlyphNames.T23 := by kernel_rfl
theorem hornbooklaw14_GlyphNames.bits23 : waitsOk hornbooklaw14_GlyphNames.T23.2 hornbooklaw14_GlyphNames.B23 = true := by kernel_rfl
set_option maxHeartbeats 8000000 in
set_option maxRecDepth 100000 in
theorem hornbooklaw14_GlyphNames.calls (k : Nat) (a0 : Int) (a1 : Int) (r : Bool) (w : World) (hG : GW w) (h : hornbooklaw14_GlyphNames.f k a0 a1 = some r) (hr_ : r = true) :
  Calls Tryd.prog 4 #[.int .i64 a0, .int .u8 a1] w fun e w' => e = .returned (.bool r) ∧ Below w.heap.size w w' := by
 have HRT := aM hr_
 clear hr_
 have HG := aM hG
 clear hG
 have HB := aM (Below.refl w.heap.size w)
 have H : ((hornbooklaw14_awake.f k).bind fun t266 => ((glyph_Names.f k).bind fun t267 => (if (t267.length : Int) = 0 then (some false) else (if 0 ≤ (Int.tmod (Go.bits .and .i64 a0 65535) (t267.length : Int)) then (if (Int.tmod (Go.bits .and .i64 a0 65535) (t267.length : Int)) < (t267.length : Int) then ((glyph_Uni.f k (rdOf ByteArray.empty t267 (Int.tmod (Go.bits .and .i64 a0 65535) (t267.length : Int)))).bind fun bt271 => (if bt271.2 = true then (if (bt271.1.length : Int) < 1 then (hornbooklaw14_GlyphNames.j0 k a1 t266 t267 (Int.tmod (Go.bits .and .i64 a0 65535) (t267.length : Int)) bt271.1 true) else (hornbooklaw14_GlyphNames.j0 k a1 t266 t267 (Int.tmod (Go.bits .and .i64 a0 65535) (t267.length : Int)) bt271.1 (decide ((bt271.1.length : Int) > 2)))) else (hornbooklaw14_GlyphNames.j0 k a1 t266 t267 (Int.tmod (Go.bits .and .i64 a0 65535) (t267.length : Int)) bt271.1 true))) else (none)) else (none))))) = some r := h
 clear h
 replace H := bS H
 obtain ⟨t266, A3, H⟩ := H
 try dsimp only at H
 replace H := bS H
 obtain ⟨t267, A4, H⟩ := H
 try dsimp only at H
 refine iEc H ?_ ?_<;>clear H<;>intro H c5b0 c5b1 c5
 ·clear c5
  exact absurd ((Option.some.inj H).trans HRT.out) (by decide)
 have c5b2 : ¬ (t267 = []) := fun h_ => c5 (by rw [h_]; rfl)
 obtain ⟨ji9, hji9⟩ : ∃ j_ : Int, (Int.tmod (Go.bits .and .i64 a0 65535) (t267.length : Int)) = j_ := ⟨_, rfl⟩
 replace H : (if 0 ≤ (ji9) then (if (ji9) < (t267.length : Int) then ((glyph_Uni.f k (rdOf ByteArray.empty t267 (ji9))).bind fun bt271 => (if bt271.2 = true then (if (bt271.1.length : Int) < 1 then (hornbooklaw14_GlyphNames.j0 k a1 t266 t267 ji9 bt271.1 true) else (hornbooklaw14_GlyphNames.j0 k a1 t266 t267 ji9 bt271.1 (decide ((bt271.1.length : Int) > 2)))) else (hornbooklaw14_GlyphNames.j0 k a1 t266 t267 ji9 bt271.1 true))) else (none)) else (none)) = some r := by first | (rw [hji9] at H; exact H) | (simp only [hji9] at H ⊢; exact H)
 (try rw [hji9] at A3)
 (try rw [hji9] at A4)
 refine iD H ?_ ?_<;>clear H<;>intro H c10b0
 rotate_left
 ·exact absurd H (by simp)
 refine iD H ?_ ?_<;>clear H<;>intro H c11b0
 rotate_left
 ·exact absurd H (by simp)
 replace H := bS H
 obtain ⟨⟨t271, t272⟩, A12, H⟩ := H
 try dsimp only at H
 have HC13 := aM H
 clear H
 go_enter Tryd.func4, Tryd.ntmps4
 go_upto_region 7 with (first | ((with_reducible refine gC 6 ?_); refine gL (some 17) Tryd.func6 #[] ?_; (with_reducible refine cB (hornbooklaw14_awake.calls k  t266 _ ?side1 A3.out) ?_); (case side1 => exact gQ HG.out); intro w14 hb; replace HB := sB hb; clear hb) | ((with_reducible refine gC 11 ?_); refine gL (some 18) Tryd.func11 #[] ?_; (with_reducible refine (glyph_Names.calls k  t267 _ ?side1 A4.out).mono ?_); (case side1 => exact gQ HG.out); rintro e w15 ⟨v268, rfl, ho0, hb⟩; refine ⟨_, rfl, ?_⟩; have HO269 := lK ho0; replace HB := sB hb; clear hb ho0; obtain ⟨Ao16, co16, eo16⟩ := Kd.R_slice HO269.out; subst eo16; have p270 : 0 ≤ ((ji9) : Int) := of_decide_eq_true hQ; have q270 : (ji9) < (t267.length : Int) := of_decide_eq_true hQ; obtain ⟨ad270, e270, hx270_0⟩ := Kd.at_string (Kd.R_reads' HO269.out).2.2 (ji9) p270 q270; cases e270; replace p270 := eq_true p270; replace q270 := eq_true q270) | ((with_reducible refine gC 7 ?_); refine goesL_ (some 32) rfl rfl Tryd.func7 (by kernel_rfl) rfl #[.string (rdOf ByteArray.empty t267 (ji9))] rfl (by (try simp only [List.map_toArray, List.map_cons, List.map_nil]); first | done | (simp only [hji9]; rfl) | rfl | (simp only [List.length_drop, List.length_take]; rfl)) ?_; (with_reducible refine (glyph_Uni.calls k (rdOf ByteArray.empty t267 (ji9)) t271 t272 _ ?side1 A12.out).mono ?_); (case side1 => exact gQ HG.out); rintro e w17 ⟨v273, rfl, ho0, hb⟩; refine ⟨_, rfl, ?_⟩; replace HO269 := rK HO269 hb; have HO274 := lK ho0; replace HB := sB hb; clear hb ho0))
 (try simp only [Act.put, List.setIfInBounds_toArray, List.set_cons_zero, List.set_cons_succ])
 go_cut [46] (fun v46 wc => ∃ (kq : Nat) (x46_12 : Bool), v46 = .bool x46_12 ∧ Aside0 (hornbooklaw14_GlyphNames.j0 kq a1 t266 t267 ji9 t271 x46_12 = some r) ∧ Aside0 (kq ≤ k) ∧ Aside0 (Kd.R Kd.string 9 wc w.heap.size (fun _ => True) (.slice (some ad270) t267.length co16) t267) ∧ Aside0 (Kd.R (Kd.int .i64) 3 wc w.heap.size (fun _ => True) v273 t271) ∧ Aside0 (Below w.heap.size w wc))
 case first =>
  have H := HC13.out
  clear HC13
  by_cases c18 : t272 = true
  rotate_left
  ·replace c18 := Bool.eq_false_iff.mpr c18
   subst c18
   rw [if_neg (show ¬ (false = true) by decide)] at H
   have H' := aM H
   clear H
   go_wp2
   go_meet
   case rel => exact ⟨_, (true), vQ, H', ⟨by first | omega | exact Nat.le_refl _⟩, ⟨mQ HO269⟩, ⟨mQ HO274⟩, ⟨bQ⟩⟩
  subst c18
  rw [if_pos rfl] at H
  refine iDc H ?_ ?_<;>clear H<;>intro H c19b0 c19
  ·have c19b1 : decide (t271.length < 1) = true := decide_eq_true (by omega)
   clear c19
   (first | rw [c19b0] | (simp only [i64_w, i32_w]; rw [c19b0]) | skip)
   have H' := aM H
   clear H
   obtain ⟨Ao20, co20, eo20⟩ := Kd.R_slice HO274.out
   subst eo20
   go_wp2
   go_meet
   case rel => exact ⟨_, (true), vQ, H', ⟨by first | omega | exact Nat.le_refl _⟩, ⟨mQ HO269⟩, ⟨mQ HO274⟩, ⟨bQ⟩⟩
  have c19b1 : decide (t271.length < 1) = false := decide_eq_false (by omega)
  clear c19
  (first | rw [c19b0] | (simp only [i64_w, i32_w]; rw [c19b0]) | skip)
  have H' := aM H
  clear H
  obtain ⟨Ao21, co21, eo21⟩ := Kd.R_slice HO274.out
  subst eo21
  go_wp2
  go_meet
  case rel => exact ⟨_, (decide ((t271.length : Int) > 2)), vQ, H', ⟨by first | omega | exact Nat.le_refl _⟩, ⟨mQ HO269⟩, ⟨mQ HO274⟩, ⟨bQ⟩⟩
 case rest =>
  clear HC13
  try clear c1
  try clear p2
  try clear q2
  try clear hx2
  try clear c4
  try clear c5
  try clear c5b0
  try clear c5b1
  try clear c5b2
  try clear c6
  try clear c7
  try clear c10
  try clear c10b0
  try clear c11
  try clear c11b0
  try clear c18
  try clear c19
  try clear c19b0
  try clear c19b1
  try clear hx270_0
  try clear p270
  try clear q270
  obtain ⟨kq, x46_12, rfl, HA, HJ12, HO_6, HO_8, HB⟩ := hcut
  cases kq with
  | zero => exact absurd HA.out (by simp [hornbooklaw14_GlyphNames.j0])
  | succ kj12 =>
   have H := HA.out
   clear HA
   simp only [hornbooklaw14_GlyphNames.j0] at H
   by_cases c22 : x46_12 = true
   ·subst c22
    rw [if_pos rfl] at H
    exact absurd ((Option.some.inj H).trans HRT.out) (by decide)
   replace c22 := Bool.eq_false_iff.mpr c22
   subst c22
   rw [if_neg (show ¬ (false = true) by decide)] at H
   have H' := aM H
   clear H
   go_wp2
   go_loopg [10] kj12 (fun kq v10 w' => ∃ (x10_2 : Int), v10 = .int .i64 x10_2 ∧ Aside0 (hornbooklaw14_GlyphNames.l0 kq a1 t266 t267 ji9 t271 x10_2 = some r) ∧ Aside0 (kq ≤ kj12) ∧ Aside0 (Kd.R Kd.string 9 w' w.heap.size (fun _ => True) (.slice (some ad270) t267.length co16) t267) ∧ Aside0 (Kd.R (Kd.int .i64) 3 w' w.heap.size (fun _ => True) v273 t271) ∧ Aside0 (Below w.heap.size w w'))
   case atStart => exact ⟨(0), vQ, H', ⟨Nat.le_refl _⟩, ⟨mQ HO_6⟩, ⟨mQ HO_8⟩, ⟨bQ⟩⟩
   case round =>
    clear H'
    try clear c1
    try clear c2
    try clear p2
    try clear q2
    try clear hx2
    try clear c4
    try clear c5
    try clear c5b0
    try clear c5b1
    try clear c5b2
    try clear c6
    try clear c7
    try clear c10
    try clear c10b0
    try clear c11
    try clear c11b0
    try clear c18
    try clear c19
    try clear c19b0
    try clear c19b1
    try clear c22
    try clear hx270_0
    try clear p2
    try clear p270
    try clear q2
    try clear q270
    obtain ⟨x10_2, rfl, HA, HK2, HO_6, HO_8, HB⟩ := hrel
    cases gk with
    | zero => exact absurd HA.out (by simp [hornbooklaw14_GlyphNames.l0])
    | succ k2 =>
     have H := HA.out
     clear HA
     simp only [hornbooklaw14_GlyphNames.l0] at H
     refine iD H ?_ ?_<;>clear H<;>intro H c23b0
     ·refine iD H ?_ ?_<;>clear H<;>intro H c24b0
      rotate_left
      ·exact absurd H (by simp)
      replace H := bS H
      obtain ⟨t276, A25, H⟩ := H
      try dsimp only at H
      by_cases c26 : t276 = true
      rotate_left
      ·replace c26 := Bool.eq_false_iff.mpr c26
       subst c26
       rw [if_neg (show ¬ (false = true) by decide)] at H
       exact absurd ((Option.some.inj H).trans HRT.out) (by decide)
      subst c26
      rw [if_pos rfl] at H
      have H' := aM H
      clear H
      obtain ⟨Ao27, co27, eo27⟩ := Kd.R_slice HO_8.out
      subst eo27
      have p275 : 0 ≤ (x10_2 : Int) := of_decide_eq_true hQ
      have q275 : x10_2 < (t271.length : Int) := of_decide_eq_true hQ
      obtain ⟨ad275, e275, hx275_0⟩ := Kd.at_int (Kd.R_reads' HO_8.out).2.2 x10_2 p275 q275
      cases e275
      replace p275 := eq_true p275
      replace q275 := eq_true q275
      go_wp2_with (first | ((with_reducible refine gC 15 ?_); refine gL (some 57) Tryd.func15 #[.int .i64 (rd t271 x10_2)] ?_; (with_reducible refine (utf_Good.calls (rd t271 x10_2) true _ A25.out).mono ?_); rintro e w' ⟨rfl, ⟨nd, rfl⟩⟩; refine ⟨_, rfl, ?_⟩))
      go_roundg k2
      case measure => have := HJ12.out; have := HK2.out; omega
      case rel => exact ⟨(wrap64 (x10_2 + 1)), vQ, H', ⟨by have := HJ12.out; have := HK2.out; omega⟩, ⟨mQ HO_6⟩, ⟨mQ HO_8⟩, ⟨bQ⟩⟩
     refine iDc H ?_ ?_<;>clear H<;>intro H c29b0 c29
     rotate_left
     ·exact absurd H (by simp)
     have c29b1 : decide (0 < t271.length) = true := decide_eq_true (by omega)
     clear c29
     replace H := bS H
     obtain ⟨⟨t278, t279⟩, A30, H⟩ := H
     try dsimp only at H
     have H' := aM H
     clear H
     obtain ⟨Ao31, co31, eo31⟩ := Kd.R_slice HO_8.out
     subst eo31
     have p277 : 0 ≤ (0 : Int) := (by omega)
     have q277 : 0 < (t271.length : Int) := of_decide_eq_true hQ
     obtain ⟨ad277, e277, hx277_0⟩ := Kd.at_int (Kd.R_reads' HO_8.out).2.2 0 p277 q277
     cases e277
     have qi277 : (0 < t271.length) = True := eq_true (by omega)
     (try rw [show ((0 : Int)).toNat = 0 from rfl] at hx277_0)
     (try rw [Addr.add_zero'] at hx277_0)
     replace p277 := eq_true p277
     replace q277 := eq_true q277
     go_wp2_with (first | ((with_reducible refine gC 9 ?_); refine gL (some 63) Tryd.func9 #[.int .i64 (rd t271 0)] ?_; (with_reducible refine cB (glyph_Back.calls k2 (rd t271 0) t278 t279 _ ?side1 A30.out) ?_); (case side1 => exact gQ HG.out); intro w32 hb; replace HO_6 := rK HO_6 hb; replace HO_8 := rK HO_8 hb; replace HB := sB hb; clear hb))
     go_loopg [11, 14] k2 (fun kq v11 v14 w' => ∃ (x11_3 : Int) (x14_3 : Int), v11 = .int .i64 x11_3 ∧ v14 = .int .i64 x14_3 ∧ Aside0 (hornbooklaw14_GlyphNames.l1 kq a1 t266 t267 ji9 t271 x11_3 t278 t279 x14_3 = some r) ∧ Aside0 (kq ≤ k2) ∧ Aside0 (Kd.R Kd.string 9 w' w.heap.size (fun _ => True) (.slice (some ad270) t267.length co16) t267) ∧ Aside0 (Kd.R (Kd.int .i64) 3 w' w.heap.size (fun _ => True) (.slice (some ad277) t271.length co31) t271) ∧ Aside0 (Below w.heap.size w w'))
     case atStart => exact ⟨((-1)), (0), vQ, vQ, H', ⟨Nat.le_refl _⟩, ⟨mQ HO_6⟩, ⟨mQ HO_8⟩, ⟨bQ⟩⟩
     case round =>
      clear H'
      try clear c1
      try clear c2
      try clear p2
      try clear q2
      try clear hx2
      try clear qi2
      try clear c4
      try clear c5
      try clear c5b0
      try clear c5b1
      try clear c5b2
      try clear c6
      try clear p6
      try clear c7
      try clear c9
      try clear c10
      try clear c10b0
      try clear c11
      try clear c11b0
      try clear c15
      try clear c18
      try clear c19
      try clear c19b0
      try clear c19b1
      try clear c22
      try clear c23
      try clear c23b0
      try clear c24
      try clear c24b0
      try clear c26
      try clear p27
      try clear q27
      try clear hx27
      try clear qi27
      try clear c29
      try clear c29b0
      try clear c29b1
      try clear hx270_0
      try clear hx275_0
      try clear hx277_0
      try clear p2
      try clear p270
      try clear p275
      try clear p277
      try clear q2
      try clear q270
      try clear q275
      try clear q277
      obtain ⟨x11_3, x14_3, rfl, rfl, HA, HK3, HO_6, HO_8, HB⟩ := hrel
      cases gk with
      | zero => exact absurd HA.out (by simp [hornbooklaw14_GlyphNames.l1])
      | succ k3 =>
       have H := HA.out
       clear HA
       simp only [hornbooklaw14_GlyphNames.l1] at H
       refine iD H ?_ ?_<;>clear H<;>intro H c33b0
       ·have HC34 := aM H
        clear H
        go_upto_region 19 with (fail)
        go_cut [85] (fun v85 wc => ∃ (kq : Nat) (x85_33 : Bool), v85 = .bool x85_33 ∧ Aside0 (hornbooklaw14_GlyphNames.j3 kq a1 t266 t267 ji9 t271 x11_3 t278 t279 x14_3 x85_33 = some r) ∧ Aside0 (kq ≤ k3) ∧ Aside0 (Kd.R Kd.string 9 wc w.heap.size (fun _ => True) (.slice (some ad270) t267.length co16) t267) ∧ Aside0 (Kd.R (Kd.int .i64) 3 wc w.heap.size (fun _ => True) (.slice (some ad277) t271.length co31) t271) ∧ Aside0 (Below w.heap.size w wc))
        case first =>
         have H := HC34.out
         clear HC34
         refine iD H ?_ ?_<;>clear H<;>intro H c35b0
         rotate_left
         ·exact absurd H (by simp)
         (first | rw [c35b0] | (simp only [i64_w, i32_w]; rw [c35b0]) | skip)
         refine iD H ?_ ?_<;>clear H<;>intro H c36b0
         rotate_left
         ·exact absurd H (by simp)
         refine iD H ?_ ?_<;>clear H<;>intro H c37b0
         rotate_left
         ·exact absurd H (by simp)
         refine iEc H ?_ ?_<;>clear H<;>intro H c38b0 c38b1 c38
         rotate_left
         ·have H' := aM H
          clear H
          try go_wp2
          have n0_ := aM (Kd.R_drew HO_6.out)
          have n1_ := aM (Kd.R_drew HO_8.out)
          have n2_ := aM (below_drew1 HB.out)
          clear HO_6
          clear HO_8
          clear HB
          have HO_6 := n0_
          have HO_8 := n1_
          have HB := n2_
          clear n0_ n1_ n2_
          have p288 : 0 ≤ (x14_3 : Int) := of_decide_eq_true hQ
          have q288 : x14_3 < (t267.length : Int) := of_decide_eq_true hQ
          obtain ⟨ad288, e288, hx288_0⟩ := Kd.at_string (Kd.R_reads' HO_6.out).2.2 x14_3 p288 q288
          obtain rfl : ad270 = ad288 := (by injection e288)
          replace p288 := eq_true p288
          replace q288 := eq_true q288
          have p289 : 0 ≤ (ji9 : Int) := of_decide_eq_true hQ
          have q289 : ji9 < (t267.length : Int) := of_decide_eq_true hQ
          obtain ⟨ad289, e289, hx289_0⟩ := Kd.at_string (Kd.R_reads' HO_6.out).2.2 ji9 p289 q289
          obtain rfl : ad270 = ad289 := (by injection e289)
          replace p289 := eq_true p289
          replace q289 := eq_true q289
          refine start_ (n := 14) (S := fun w' => w'.cell? (ad270.add (x14_3).toNat) = some (.string (rdOf ByteArray.empty t267 x14_3)) ∧ w'.cell? (ad270.add (ji9).toNat) = some (.string (rdOf ByteArray.empty t267 ji9))) (ds := []) #[false, false, false, false, false, false, false, false, false, false, false, false, false, false] (by kernel_rfl) rfl rfl ⟨hx288_0, hx289_0⟩ (fun hHeld => ?_); refine with_tabW hornbooklaw14_GlyphNames.tab19 hornbooklaw14_GlyphNames.bits19 (fun HT_ HW_ => ?_)
          generalize wr.drew = w40 at HO_6 HO_8 HB hx288_0 hx289_0 hHeld ⊢
          refine pure_ (i := 0) (N := some 72) (v := ?_) (a' := ?_) #[true, false, false, false, false, false, false, false, false, false, false, false, false, false] rfl rfl (any_of HT_.out (by kernel_rfl)) (fun _ _ _ h => h) (Or.inl ⟨by rfl, ?_⟩) ?_ ?_
          rotate_left
          ·intro w'
           go_simp
           with_reducible rfl
          rotate_left
          ·simp only [Act.put, List.setIfInBounds_toArray, List.set_cons_zero, List.set_cons_succ, i64_w, i32_w]
           rfl
          refine pure_ (i := 1) (N := some 73) (v := ?_) (a' := ?_) #[true, true, false, false, false, false, false, false, false, false, false, false, false, false] rfl rfl (any_of HT_.out (by kernel_rfl)) (fun _ _ _ h => h) (Or.inl ⟨by rfl, ?_⟩) ?_ ?_
          rotate_left
          ·intro w'
           go_simp
           with_reducible rfl
          rotate_left
          ·simp only [Act.put, List.setIfInBounds_toArray, List.set_cons_zero, List.set_cons_succ, i64_w, i32_w]
           rfl
          refine pure_ (i := 2) (N := some 74) (v := ?_) (a' := ?_) #[true, true, true, false, false, false, false, false, false, false, false, false, false, false] rfl rfl (any_of HT_.out (by kernel_rfl)) (fun _ _ _ h => h) (Or.inl ⟨by rfl, ?_⟩) ?_ ?_
          rotate_left
          ·intro w'
           go_simp
           with_reducible rfl
          rotate_left
          ·simp only [Act.put, List.setIfInBounds_toArray, List.set_cons_zero, List.set_cons_succ, i64_w, i32_w]
           rfl
          refine pure_ (i := 4) (N := some 76) (v := ?_) (a' := ?_) #[true, true, true, false, true, false, false, false, false, false, false, false, false, false] rfl rfl (any_of HT_.out (by kernel_rfl)) (fun _ _ _ h => h) (Or.inl ⟨by rfl, ?_⟩) ?_ ?_
          rotate_left
          ·intro w'
           go_simp
           with_reducible rfl
          rotate_left
          ·simp only [Act.put, List.setIfInBounds_toArray, List.set_cons_zero, List.set_cons_succ, i64_w, i32_w]
           rfl
          refine pure_ (i := 5) (N := some 77) (v := ?_) (a' := ?_) #[true, true, true, false, true, true, false, false, false, false, false, false, false, false] rfl rfl (any_of HT_.out (by kernel_rfl)) (fun _ _ _ h => h) (Or.inl ⟨by rfl, ?_⟩) ?_ ?_
          rotate_left
          ·intro w'
           go_simp
           with_reducible rfl
          rotate_left
          ·simp only [Act.put, List.setIfInBounds_toArray, List.set_cons_zero, List.set_cons_succ, i64_w, i32_w]
           rfl
          refine pure_ (i := 6) (N := some 78) (v := ?_) (a' := ?_) #[true, true, true, false, true, true, true, false, false, false, false, false, false, false] rfl rfl (any_of HT_.out (by kernel_rfl)) (fun _ _ _ h => h) (Or.inl ⟨by rfl, ?_⟩) ?_ ?_
          rotate_left
          ·intro w'
           go_simp
           with_reducible rfl
          rotate_left
          ·simp only [Act.put, List.setIfInBounds_toArray, List.set_cons_zero, List.set_cons_succ, i64_w, i32_w]
           rfl
          refine take_ (i := 3) (N := some 75) (v := ?_) (a' := ?_) #[true, true, true, true, true, true, true, false, false, false, false, false, false, false] rfl rfl (take_ofW HT_.out HW_.out (by kernel_rfl)) (fun _ _ _ h => h) (Or.inl ⟨by rfl, ?_⟩) hHeld ?_ ?_
          rotate_left
          ·rintro w' ⟨s0, s1⟩
           go_simp
           with_reducible rfl
          rotate_left
          ·simp only [Act.put, List.setIfInBounds_toArray, List.set_cons_zero, List.set_cons_succ, i64_w, i32_w]
           rfl
          refine take_ (i := 7) (N := some 79) (v := ?_) (a' := ?_) #[true, true, true, true, true, true, true, true, false, false, false, false, false, false] rfl rfl (take_ofW HT_.out HW_.out (by kernel_rfl)) (fun _ _ _ h => h) (Or.inl ⟨by rfl, ?_⟩) hHeld ?_ ?_
          rotate_left
          ·rintro w' ⟨s0, s1⟩
           go_simp
           with_reducible rfl
          rotate_left
          ·simp only [Act.put, List.setIfInBounds_toArray, List.set_cons_zero, List.set_cons_succ, i64_w, i32_w]
           rfl
          refine pure_ (i := 8) (N := some 80) (v := ?_) (a' := ?_) #[true, true, true, true, true, true, true, true, true, false, false, false, false, false] rfl rfl (any_of HT_.out (by kernel_rfl)) (fun _ _ _ h => h) (Or.inl ⟨by rfl, ?_⟩) ?_ ?_
          rotate_left
          ·intro w'
           go_simp
           with_reducible rfl
          rotate_left
          ·simp only [Act.put, List.setIfInBounds_toArray, List.set_cons_zero, List.set_cons_succ, i64_w, i32_w]
           rfl
          refine pure_ (i := 9) (N := some 81) (v := ?_) (a' := ?_) #[true, true, true, true, true, true, true, true, true, true, false, false, false, false] rfl rfl (any_of HT_.out (by kernel_rfl)) (fun _ _ _ h => h) (Or.inl ⟨by rfl, ?_⟩) ?_ ?_
          rotate_left
          ·intro w'
           go_simp
           with_reducible rfl
          rotate_left
          ·simp only [Act.put, List.setIfInBounds_toArray, List.set_cons_zero, List.set_cons_succ, i64_w, i32_w]
           rfl
          refine pure_ (i := 10) (N := some 82) (v := undef) (a' := ?_) #[true, true, true, true, true, true, true, true, true, true, true, false, false, false] rfl rfl (any_of HT_.out (by kernel_rfl)) (fun _ _ _ h => h) (Or.inr ⟨by rfl, rfl⟩) ?_ ?_
          rotate_left
          ·simp only [Act.put, List.setIfInBounds_toArray, List.set_cons_zero, List.set_cons_succ, i64_w, i32_w]
           rfl
          refine pure_ (i := 11) (N := some 83) (v := undef) (a' := ?_) #[true, true, true, true, true, true, true, true, true, true, true, true, false, false] rfl rfl (any_of HT_.out (by kernel_rfl)) (fun _ _ _ h => h) (Or.inr ⟨by rfl, rfl⟩) ?_ ?_
          rotate_left
          ·simp only [Act.put, List.setIfInBounds_toArray, List.set_cons_zero, List.set_cons_succ, i64_w, i32_w]
           rfl
          refine pure_ (i := 12) (N := some 84) (v := undef) (a' := ?_) #[true, true, true, true, true, true, true, true, true, true, true, true, true, false] rfl rfl (any_of HT_.out (by kernel_rfl)) (fun _ _ _ h => h) (Or.inr ⟨by rfl, rfl⟩) ?_ ?_
          rotate_left
          ·simp only [Act.put, List.setIfInBounds_toArray, List.set_cons_zero, List.set_cons_succ, i64_w, i32_w]
           rfl
          refine pure_ (i := 13) (N := some 85) (v := ?_) (a' := ?_) #[true, true, true, true, true, true, true, true, true, true, true, true, true, true] rfl rfl (any_of HT_.out (by kernel_rfl)) (fun _ _ _ h => h) (Or.inl ⟨by rfl, ?_⟩) ?_ ?_
          rotate_left
          ·intro w'
           go_simp
           with_reducible rfl
          rotate_left
          ·simp only [Act.put, List.setIfInBounds_toArray, List.set_cons_zero, List.set_cons_succ, i64_w, i32_w]
           rfl
          refine done_ (done_of HT_.out (by kernel_rfl)) ?_
          try go_wp2
          go_meet
          case rel => exact ⟨_, (false), vQ, H', ⟨by have := HJ12.out; have := HK2.out; have := HK3.out; first | omega | exact Nat.le_refl _⟩, ⟨mQ HO_6⟩, ⟨mQ HO_8⟩, ⟨bQ⟩⟩
         clear c38
         have H' := aM H
         clear H
         try go_wp2
         have n0_ := aM (Kd.R_drew HO_6.out)
         have n1_ := aM (Kd.R_drew HO_8.out)
         have n2_ := aM (below_drew1 HB.out)
         clear HO_6
         clear HO_8
         clear HB
         have HO_6 := n0_
         have HO_8 := n1_
         have HB := n2_
         clear n0_ n1_ n2_
         have p288 : 0 ≤ (x14_3 : Int) := of_decide_eq_true hQ
         have q288 : x14_3 < (t267.length : Int) := of_decide_eq_true hQ
         obtain ⟨ad288, e288, hx288_0⟩ := Kd.at_string (Kd.R_reads' HO_6.out).2.2 x14_3 p288 q288
         obtain rfl : ad270 = ad288 := (by injection e288)
         replace p288 := eq_true p288
         replace q288 := eq_true q288
         have p289 : 0 ≤ (ji9 : Int) := of_decide_eq_true hQ
         have q289 : ji9 < (t267.length : Int) := of_decide_eq_true hQ
         obtain ⟨ad289, e289, hx289_0⟩ := Kd.at_string (Kd.R_reads' HO_6.out).2.2 ji9 p289 q289
         obtain rfl : ad270 = ad289 := (by injection e289)
         replace p289 := eq_true p289
         replace q289 := eq_true q289
         refine start_ (n := 14) (S := fun w' => w'.cell? (ad270.add (x14_3).toNat) = some (.string (rdOf ByteArray.empty t267 x14_3)) ∧ w'.cell? (ad270.add (ji9).toNat) = some (.string (rdOf ByteArray.empty t267 ji9))) (ds := []) #[false, false, false, false, false, false, false, false, false, false, false, false, false, false] (by kernel_rfl) rfl rfl ⟨hx288_0, hx289_0⟩ (fun hHeld => ?_); refine with_tabW hornbooklaw14_GlyphNames.tab19 hornbooklaw14_GlyphNames.bits19 (fun HT_ HW_ => ?_)
         generalize wr.drew = w39 at HO_6 HO_8 HB hx288_0 hx289_0 hHeld ⊢
         refine pure_ (i := 0) (N := some 72) (v := ?_) (a' := ?_) #[true, false, false, false, false, false, false, false, false, false, false, false, false, false] rfl rfl (any_of HT_.out (by kernel_rfl)) (fun _ _ _ h => h) (Or.inl ⟨by rfl, ?_⟩) ?_ ?_
         rotate_left
         ·intro w'
          go_simp
          with_reducible rfl
         rotate_left
         ·simp only [Act.put, List.setIfInBounds_toArray, List.set_cons_zero, List.set_cons_succ, i64_w, i32_w]
          rfl
         refine pure_ (i := 1) (N := some 73) (v := ?_) (a' := ?_) #[true, true, false, false, false, false, false, false, false, false, false, false, false, false] rfl rfl (any_of HT_.out (by kernel_rfl)) (fun _ _ _ h => h) (Or.inl ⟨by rfl, ?_⟩) ?_ ?_
         rotate_left
         ·intro w'
          go_simp
          with_reducible rfl
         rotate_left
         ·simp only [Act.put, List.setIfInBounds_toArray, List.set_cons_zero, List.set_cons_succ, i64_w, i32_w]
          rfl
         refine pure_ (i := 2) (N := some 74) (v := ?_) (a' := ?_) #[true, true, true, false, false, false, false, false, false, false, false, false, false, false] rfl rfl (any_of HT_.out (by kernel_rfl)) (fun _ _ _ h => h) (Or.inl ⟨by rfl, ?_⟩) ?_ ?_
         rotate_left
         ·intro w'
          go_simp
          with_reducible rfl
         rotate_left
         ·simp only [Act.put, List.setIfInBounds_toArray, List.set_cons_zero, List.set_cons_succ, i64_w, i32_w]
          rfl
         refine pure_ (i := 4) (N := some 76) (v := ?_) (a' := ?_) #[true, true, true, false, true, false, false, false, false, false, false, false, false, false] rfl rfl (any_of HT_.out (by kernel_rfl)) (fun _ _ _ h => h) (Or.inl ⟨by rfl, ?_⟩) ?_ ?_
         rotate_left
         ·intro w'
          go_simp
          with_reducible rfl
         rotate_left
         ·simp only [Act.put, List.setIfInBounds_toArray, List.set_cons_zero, List.set_cons_succ, i64_w, i32_w]
          rfl
         refine pure_ (i := 5) (N := some 77) (v := ?_) (a' := ?_) #[true, true, true, false, true, true, false, false, false, false, false, false, false, false] rfl rfl (any_of HT_.out (by kernel_rfl)) (fun _ _ _ h => h) (Or.inl ⟨by rfl, ?_⟩) ?_ ?_
         rotate_left
         ·intro w'
          go_simp
          with_reducible rfl
         rotate_left
         ·simp only [Act.put, List.setIfInBounds_toArray, List.set_cons_zero, List.set_cons_succ, i64_w, i32_w]
          rfl
         refine pure_ (i := 6) (N := some 78) (v := ?_) (a' := ?_) #[true, true, true, false, true, true, true, false, false, false, false, false, false, false] rfl rfl (any_of HT_.out (by kernel_rfl)) (fun _ _ _ h => h) (Or.inl ⟨by rfl, ?_⟩) ?_ ?_
         rotate_left
         ·intro w'
          go_simp
          with_reducible rfl
         rotate_left
         ·simp only [Act.put, List.setIfInBounds_toArray, List.set_cons_zero, List.set_cons_succ, i64_w, i32_w]
          rfl
         refine take_ (i := 3) (N := some 75) (v := ?_) (a' := ?_) #[true, true, true, true, true, true, true, false, false, false, false, false, false, false] rfl rfl (take_ofW HT_.out HW_.out (by kernel_rfl)) (fun _ _ _ h => h) (Or.inl ⟨by rfl, ?_⟩) hHeld ?_ ?_
         rotate_left
         ·rintro w' ⟨s0, s1⟩
          go_simp
          with_reducible rfl
         rotate_left
         ·simp only [Act.put, List.setIfInBounds_toArray, List.set_cons_zero, List.set_cons_succ, i64_w, i32_w]
          rfl
         refine take_ (i := 7) (N := some 79) (v := ?_) (a' := ?_) #[true, true, true, true, true, true, true, true, false, false, false, false, false, false] rfl rfl (take_ofW HT_.out HW_.out (by kernel_rfl)) (fun _ _ _ h => h) (Or.inl ⟨by rfl, ?_⟩) hHeld ?_ ?_
         rotate_left
         ·rintro w' ⟨s0, s1⟩
          go_simp
          with_reducible rfl
         rotate_left
         ·simp only [Act.put, List.setIfInBounds_toArray, List.set_cons_zero, List.set_cons_succ, i64_w, i32_w]
          rfl
         refine pure_ (i := 8) (N := some 80) (v := ?_) (a' := ?_) #[true, true, true, true, true, true, true, true, true, false, false, false, false, false] rfl rfl (any_of HT_.out (by kernel_rfl)) (fun _ _ _ h => h) (Or.inl ⟨by rfl, ?_⟩) ?_ ?_
         rotate_left
         ·intro w'
          go_simp
          with_reducible rfl
         rotate_left
         ·simp only [Act.put, List.setIfInBounds_toArray, List.set_cons_zero, List.set_cons_succ, i64_w, i32_w]
          rfl
         refine pure_ (i := 9) (N := some 81) (v := ?_) (a' := ?_) #[true, true, true, true, true, true, true, true, true, true, false, false, false, false] rfl rfl (any_of HT_.out (by kernel_rfl)) (fun _ _ _ h => h) (Or.inl ⟨by rfl, ?_⟩) ?_ ?_
         rotate_left
         ·intro w'
          go_simp
          with_reducible rfl
         rotate_left
         ·simp only [Act.put, List.setIfInBounds_toArray, List.set_cons_zero, List.set_cons_succ, i64_w, i32_w]
          rfl
         refine pure_ (i := 10) (N := some 82) (v := ?_) (a' := ?_) #[true, true, true, true, true, true, true, true, true, true, true, false, false, false] rfl rfl (any_of HT_.out (by kernel_rfl)) (fun _ _ _ h => h) (Or.inl ⟨by rfl, ?_⟩) ?_ ?_
         rotate_left
         ·intro w'
          go_simp
          with_reducible rfl
         rotate_left
         ·simp only [Act.put, List.setIfInBounds_toArray, List.set_cons_zero, List.set_cons_succ, i64_w, i32_w]
          rfl
         refine pure_ (i := 11) (N := some 83) (v := ?_) (a' := ?_) #[true, true, true, true, true, true, true, true, true, true, true, true, false, false] rfl rfl (any_of HT_.out (by kernel_rfl)) (fun _ _ _ h => h) (Or.inl ⟨by rfl, ?_⟩) ?_ ?_
         rotate_left
         ·intro w'
          go_simp
          with_reducible rfl
         rotate_left
         ·simp only [Act.put, List.setIfInBounds_toArray, List.set_cons_zero, List.set_cons_succ, i64_w, i32_w]
          rfl
         refine pure_ (i := 12) (N := some 84) (v := ?_) (a' := ?_) #[true, true, true, true, true, true, true, true, true, true, true, true, true, false] rfl rfl (any_of HT_.out (by kernel_rfl)) (fun _ _ _ h => h) (Or.inl ⟨by rfl, ?_⟩) ?_ ?_
         rotate_left
         ·intro w'
          go_simp
          with_reducible rfl
         rotate_left
         ·simp only [Act.put, List.setIfInBounds_toArray, List.set_cons_zero, List.set_cons_succ, i64_w, i32_w]
          rfl
         refine pure_ (i := 13) (N := some 85) (v := ?_) (a' := ?_) #[true, true, true, true, true, true, true, true, true, true, true, true, true, true] rfl rfl (any_of HT_.out (by kernel_rfl)) (fun _ _ _ h => h) (Or.inl ⟨by rfl, ?_⟩) ?_ ?_
         rotate_left
         ·intro w'
          go_simp
          with_reducible rfl
         rotate_left
         ·simp only [Act.put, List.setIfInBounds_toArray, List.set_cons_zero, List.set_cons_succ, i64_w, i32_w]
          rfl
         refine done_ (done_of HT_.out (by kernel_rfl)) ?_
         try go_wp2
         go_meet
         case rel => exact ⟨_, ((x14_3 != ji9)), (by first | rfl | (simp; done) | (simp only [← hji9] <;> (first | rfl | simp)) | (simp [*]; done)), H', ⟨by have := HJ12.out; have := HK2.out; have := HK3.out; first | omega | exact Nat.le_refl _⟩, ⟨mQ HO_6⟩, ⟨mQ HO_8⟩, ⟨bQ⟩⟩
        case rest =>
         clear HC34
         try clear c1
         try clear c2
         try clear p2
         try clear q2
         try clear hx2
         try clear qi2
         try clear c3
         try clear c4
         try clear c5
         try clear c5b0
         try clear c5b1
         try clear c5b2
         try clear c6
         try clear p6
         try clear c7
         try clear c9
         try clear c10
         try clear c10b0
         try clear c11
         try clear c11b0
         try clear c15
         try clear c18
         try clear c19
         try clear c19b0
         try clear c19b1
         try clear c22
         try clear c23
         try clear c23b0
         try clear c24
         try clear c24b0
         try clear c26
         try clear p27
         try clear q27
         try clear hx27
         try clear qi27
         try clear p28
         try clear q28
         try clear hx28
         try clear c29
         try clear c29b0
         try clear c29b1
         try clear c33
         try clear c33b0
         try clear c35
         try clear c35b0
         try clear c36
         try clear c36b0
         try clear c37
         try clear c37b0
         try clear c38
         try clear c38b0
         try clear c38b1
         try clear hx270_0
         try clear hx275_0
         try clear hx277_0
         try clear hx288_0
         try clear hx289_0
         try clear p2
         try clear p27
         try clear p270
         try clear p275
         try clear p277
         try clear p288
         try clear p289
         try clear p6
         try clear q2
         try clear q27
         try clear q270
         try clear q275
         try clear q277
         try clear q288
         try clear q289
         obtain ⟨kq, x85_33, rfl, HA, HJ33, HO_6, HO_8, HB⟩ := hcut
         cases kq with
         | zero => exact absurd HA.out (by simp [hornbooklaw14_GlyphNames.j3])
         | succ kj33 =>
          have H := HA.out
          clear HA
          simp only [hornbooklaw14_GlyphNames.j3] at H
          by_cases c41 : x85_33 = true
          ·subst c41
           rw [if_pos rfl] at H
           exact absurd ((Option.some.inj H).trans HRT.out) (by decide)
          replace c41 := Bool.eq_false_iff.mpr c41
          subst c41
          rw [if_neg (show ¬ (false = true) by decide)] at H
          by_cases c42 : t279 = true
          rotate_left
          ·replace c42 := Bool.eq_false_iff.mpr c42
           subst c42
           rw [if_neg (show ¬ (false = true) by decide)] at H
           have H' := aM H
           clear H
           go_wp2
           go_roundg kj33
           case measure => have := HJ12.out; have := HK2.out; have := HK3.out; have := HJ33.out; omega
           case rel => exact ⟨(x11_3), (wrap64 (x14_3 + 1)), vQ, vQ, H', ⟨by have := HJ12.out; have := HK2.out; have := HK3.out; have := HJ33.out; omega⟩, ⟨mQ HO_6⟩, ⟨mQ HO_8⟩, ⟨bQ⟩⟩
          subst c42
          rw [if_pos rfl] at H
          refine iD H ?_ ?_<;>clear H<;>intro H c43b0
          rotate_left
          ·exact absurd H (by simp)
          refine iD H ?_ ?_<;>clear H<;>intro H c44b0
          rotate_left
          ·exact absurd H (by simp)
          refine iEc H ?_ ?_<;>clear H<;>intro H c45b0 c45b1 c45
          rotate_left
          ·have H' := aM H
           clear H
           have p290 : 0 ≤ (x14_3 : Int) := of_decide_eq_true hQ
           have q290 : x14_3 < (t267.length : Int) := of_decide_eq_true hQ
           obtain ⟨ad290, e290, hx290_0⟩ := Kd.at_string (Kd.R_reads' HO_6.out).2.2 x14_3 p290 q290
           obtain rfl : ad270 = ad290 := (by injection e290)
           replace p290 := eq_true p290
           replace q290 := eq_true q290
           go_wp2
           go_roundg kj33
           case measure => have := HJ12.out; have := HK2.out; have := HK3.out; have := HJ33.out; omega
           case rel => exact ⟨(x11_3), (wrap64 (x14_3 + 1)), vQ, vQ, H', ⟨by have := HJ12.out; have := HK2.out; have := HK3.out; have := HJ33.out; omega⟩, ⟨mQ HO_6⟩, ⟨mQ HO_8⟩, ⟨bQ⟩⟩
          clear c45
          refine iD H ?_ ?_<;>clear H<;>intro H c46b0
          ·have H' := aM H
           clear H
           have p290 : 0 ≤ (x14_3 : Int) := of_decide_eq_true hQ
           have q290 : x14_3 < (t267.length : Int) := of_decide_eq_true hQ
           obtain ⟨ad290, e290, hx290_0⟩ := Kd.at_string (Kd.R_reads' HO_6.out).2.2 x14_3 p290 q290
           obtain rfl : ad270 = ad290 := (by injection e290)
           replace p290 := eq_true p290
           replace q290 := eq_true q290
           go_wp2
           go_roundg kj33
           case measure => have := HJ12.out; have := HK2.out; have := HK3.out; have := HJ33.out; omega
           case rel => exact ⟨(x14_3), (wrap64 (x14_3 + 1)), vQ, vQ, H', ⟨by have := HJ12.out; have := HK2.out; have := HK3.out; have := HJ33.out; omega⟩, ⟨mQ HO_6⟩, ⟨mQ HO_8⟩, ⟨bQ⟩⟩
          have H' := aM H
          clear H
          have p290 : 0 ≤ (x14_3 : Int) := of_decide_eq_true hQ
          have q290 : x14_3 < (t267.length : Int) := of_decide_eq_true hQ
          obtain ⟨ad290, e290, hx290_0⟩ := Kd.at_string (Kd.R_reads' HO_6.out).2.2 x14_3 p290 q290
          obtain rfl : ad270 = ad290 := (by injection e290)
          replace p290 := eq_true p290
          replace q290 := eq_true q290
          go_wp2
          go_roundg kj33
          case measure => have := HJ12.out; have := HK2.out; have := HK3.out; have := HJ33.out; omega
          case rel => exact ⟨(x11_3), (wrap64 (x14_3 + 1)), vQ, vQ, H', ⟨by have := HJ12.out; have := HK2.out; have := HK3.out; have := HJ33.out; omega⟩, ⟨mQ HO_6⟩, ⟨mQ HO_8⟩, ⟨bQ⟩⟩
       refine iD H ?_ ?_<;>clear H<;>intro H c47b0
       rotate_left
       ·exact absurd H (by simp)
       refine iD H ?_ ?_<;>clear H<;>intro H c48b0
       rotate_left
       ·exact absurd H (by simp)
       obtain ⟨y281, hy281⟩ : ∃ y_ : List Int, y_ = (([a1] : List Int)) := ⟨_, rfl⟩
       replace H : (if (rdOf ByteArray.empty t267 ji9).size + (strOfNums y281).size ≤ 9223372036854775807 then ((glyph_Uni.f k3 ((rdOf ByteArray.empty t267 ji9) ++ (strOfNums y281))).bind fun bt284 => (if t266 = true then (if (t271.length : Int) = 2 then (if bt284.2 = true then (some true) else (some ((bt284.1.length : Int) == 0))) else (if x11_3 ≥ 0 then (if x11_3 ≤ ji9 then (if bt284.2 = true then (some true) else (some ((bt284.1.length : Int) == 0))) else (some false)) else (some false))) else (some false))) else (none)) = some r := by first | (rw [hy281]; with_reducible exact H) | (have H2_ := (Option.bind_some _ _).symm.trans H; rw [hy281]; with_reducible exact H2_) | (have H2_ := (Option.bind_some _ _).symm.trans H; with_reducible exact H2_) | with_reducible exact H | (rw [hy281]; exact H) | exact H
       have Ny281 := aM hy281
       clear hy281
       refine iNc H ?_ ?_<;>clear H<;>intro H c49
       rotate_left
       ·exact absurd H (by simp)
       have c49b0 := eq_true c49
       have c49b1 : decide ((rdOf ByteArray.empty t267 ji9).size + (strOfNums y281).size ≤ 9223372036854775807) = true := decide_eq_true c49
       try have c49b2 : (9223372036854775807 < (rdOf ByteArray.empty t267 ji9).size + (strOfNums y281).size) = False := eq_false (Nat.not_lt.2 c49)
       replace H := bS H
       obtain ⟨⟨t284, t285⟩, A50, H⟩ := H
       try dsimp only at H
       by_cases c51 : t266 = true
       rotate_left
       ·replace c51 := Bool.eq_false_iff.mpr c51
        subst c51
        rw [if_neg (show ¬ (false = true) by decide)] at H
        exact absurd ((Option.some.inj H).trans HRT.out) (by decide)
       subst c51
       rw [if_pos rfl] at H
       refine iEc H ?_ ?_<;>clear H<;>intro H c52b0 c52b1 c52
       ·clear c52
        by_cases c53 : t285 = true
        ·subst c53
         rw [if_pos rfl] at H
         obtain rfl := Option.some.inj H
         try go_wp2
         have n0_ := aM (Kd.R_drew HO_6.out)
         have n1_ := aM (Kd.R_drew HO_8.out)
         have n2_ := aM (below_drew1 HB.out)
         clear HO_6
         clear HO_8
         clear HB
         have HO_6 := n0_
         have HO_8 := n1_
         have HB := n2_
         clear n0_ n1_ n2_
         have p280 : 0 ≤ (ji9 : Int) := of_decide_eq_true hQ
         have q280 : ji9 < (t267.length : Int) := of_decide_eq_true hQ
         obtain ⟨ad280, e280, hx280_0⟩ := Kd.at_string (Kd.R_reads' HO_6.out).2.2 ji9 p280 q280
         obtain rfl : ad270 = ad280 := (by injection e280)
         replace p280 := eq_true p280
         replace q280 := eq_true q280
         refine start_ (n := 14) (S := fun w' => w'.cell? (ad270.add (ji9).toNat) = some (.string (rdOf ByteArray.empty t267 ji9))) (ds := []) #[false, false, false, false, false, false, false, false, false, false, false, false, false, false] (by kernel_rfl) rfl rfl (hx280_0) (fun hHeld => ?_); refine with_tabW hornbooklaw14_GlyphNames.tab23 hornbooklaw14_GlyphNames.bits23 (fun HT_ HW_ => ?_)
         generalize wr.drew = w54 at HO_6 HO_8 HB hx280_0 hHeld ⊢
         refine pure_ (i := 0) (N := some 101) (v := ?_) (a' := ?_) #[true, false, false, false, false, false, false, false, false, false, false, false, false, false] rfl rfl (any_of HT_.out (by kernel_rfl)) (fun _ _ _ h => h) (Or.inl ⟨by rfl, ?_⟩) ?_ ?_
         rotate_left
         ·intro w'
          go_simp
          with_reducible rfl
         rotate_left
         ·simp only [Act.put, List.setIfInBounds_toArray, List.set_cons_zero, List.set_cons_succ, i64_w, i32_w]
          rfl
         refine pure_ (i := 1) (N := some 102) (v := ?_) (a' := ?_) #[true, true, false, false, false, false, false, false, false, false, false, false, false, false] rfl rfl (any_of HT_.out (by kernel_rfl)) (fun _ _ _ h => h) (Or.inl ⟨by rfl, ?_⟩) ?_ ?_
         rotate_left
         ·intro w'
          go_simp
          with_reducible rfl
         rotate_left
         ·simp only [Act.put, List.setIfInBounds_toArray, List.set_cons_zero, List.set_cons_succ, i64_w, i32_w]
          rfl
         refine pure_ (i := 2) (N := some 103) (v := ?_) (a' := ?_) #[true, true, true, false, false, false, false, false, false, false, false, false, false, false] rfl rfl (any_of HT_.out (by kernel_rfl)) (fun _ _ _ h => h) (Or.inl ⟨by rfl, ?_⟩) ?_ ?_
         rotate_left
         ·intro w'
          go_simp
          with_reducible rfl
         rotate_left
         ·simp only [Act.put, List.setIfInBounds_toArray, List.set_cons_zero, List.set_cons_succ, i64_w, i32_w]
          rfl
         refine pure_ (i := 4) (N := some 105) (v := ?_) (a' := ?_) #[true, true, true, false, true, false, false, false, false, false, false, false, false, false] rfl rfl (any_of HT_.out (by kernel_rfl)) (fun _ _ _ h => h) (Or.inl ⟨by rfl, ?_⟩) ?_ ?_
         rotate_left
         ·intro w'
          go_simp
          with_reducible rfl
         rotate_left
         ·simp only [Act.put, List.setIfInBounds_toArray, List.set_cons_zero, List.set_cons_succ, i64_w, i32_w]
          rfl
         refine take_ (i := 3) (N := some 104) (v := ?_) (a' := ?_) #[true, true, true, true, true, false, false, false, false, false, false, false, false, false] rfl rfl (take_ofW HT_.out HW_.out (by kernel_rfl)) (fun _ _ _ h => h) (Or.inl ⟨by rfl, ?_⟩) hHeld ?_ ?_
         rotate_left
         ·intro w' s0
          go_simp
          with_reducible rfl
         rotate_left
         ·simp only [Act.put, List.setIfInBounds_toArray, List.set_cons_zero, List.set_cons_succ, i64_w, i32_w]
          rfl
         refine one_ (i := 5) (N := some 106) #[true, true, true, true, true, true, false, false, false, false, false, false, false, false] rfl rfl (one_of HT_.out (by kernel_rfl)) (by decide) (fun K hK => ?_)
         refine Kd.R_lit_step (Kd.int .u8) _ 5 ?hg (N := 106) ?hd (xs := ([a1] : List Int)) (inner := [.int .u8 a1]) (ok := fun _ => True) (okp := fun _ => True) ?hr ?hp (fun _ hk => hk) trivial (Below.refl _ _) (Nat.le_refl _) (by simp) ?_; (case hd => rfl); (case hg => rfl); (case hr => first | (go_simp; done) | (go_simp; rfl)); (case hp => exact (Reps.one (show Kd.M (Kd.int .u8) _ _ _ a1 [.int .u8 a1] from rfl) (Reps.none _ _)))
         intro v282 w55 ho56 hb hg_ hnew_
         have HS0_ := (hb.cell (World.block_lt_of_cell? _ _ (hHeld))).trans (hHeld)
         clear hg_ hnew_
         (first | rw [← Ny281.out] at ho56 | (simp only [Int.reduceToNat] at ho56; rw [← Ny281.out] at ho56))
         have n0_ := rK HO_6 hb
         have n1_ := rK HO_8 hb
         have n2_ := lK ho56
         have n3_ := sB hb
         clear HO_6
         clear HO_8
         clear HB
         have HO_6 := n0_
         have HO_8 := n1_
         have HO283 := n2_
         have HB := n3_
         clear n0_ n1_ n2_ n3_
         clear hb ho56
         refine hK.out _ _ (HS0_) (fun hHeld => ?_)
         clear hK K
         refine norm_ (a' := ?_) ?_ ?_
         rotate_left
         ·show Act.put _ (some 106) _ = _
          simp only [Act.put, List.setIfInBounds_toArray, List.set_cons_zero, List.set_cons_succ, i64_w, i32_w]
          rfl
         refine one_ (i := 6) (N := some 107) #[true, true, true, true, true, true, true, false, false, false, false, false, false, false] rfl rfl (one_of HT_.out (by kernel_rfl)) (by decide) (fun K hK => ?_)
         have hcv57 := own_string (P := Tryd.prog) Tryd.underlying34 Tryd.underlying5 Tryd.underlying9 (Kd.own_of_R HO283.out)
         refine value_ (w1 := ?_) (v := ?_) (by rfl) rfl ?_ ?_
         rotate_left 2
         ·go_simp
          constructor
          ·rfl
          ·rfl
         clear hcv57
         refine hK.out _ _ (hHeld) (fun hHeld => ?_)
         clear hK K
         refine norm_ (a' := ?_) ?_ ?_
         rotate_left
         ·show Act.put _ (some 107) _ = _
          simp only [Act.put, List.setIfInBounds_toArray, List.set_cons_zero, List.set_cons_succ, i64_w, i32_w]
          rfl
         refine pure_ (i := 7) (N := some 108) (v := ?_) (a' := ?_) #[true, true, true, true, true, true, true, true, false, false, false, false, false, false] rfl rfl (any_of HT_.out (by kernel_rfl)) (fun _ _ _ h => h) (Or.inl ⟨by rfl, ?_⟩) ?_ ?_
         rotate_left
         ·intro w'
          go_simp
          with_reducible rfl
         rotate_left
         ·simp only [Act.put, List.setIfInBounds_toArray, List.set_cons_zero, List.set_cons_succ, i64_w, i32_w]
          rfl
         refine one_ (i := 8) (N := some 109) #[true, true, true, true, true, true, true, true, true, false, false, false, false, false] rfl rfl (one_of HT_.out (by kernel_rfl)) (by decide) (fun K hK => ?_)
         refine goes_ Tryd.func7 (by kernel_rfl) rfl #[.string ((rdOf ByteArray.empty t267 ji9) ++ (strOfNums y281))] (by rfl) rfl rfl (by (try simp only [List.map_toArray, List.map_cons, List.map_nil]); first | done | (simp only [hji9]; rfl) | rfl | (simp only [List.length_drop, List.length_take]; rfl)) ?_
         with_reducible refine (glyph_Uni.calls k3 ((rdOf ByteArray.empty t267 ji9) ++ (strOfNums y281)) t284 true _ ?side1 A50.out).mono ?_
         (case side1 => exact gQ HG.out)
         rintro e w58 ⟨v286, rfl, ho0, hb⟩
         have HS0_ := (hb.cell (World.block_lt_of_cell? _ _ (hHeld))).trans (hHeld)
         refine ⟨_, rfl, ?_⟩
         have n0_ := rK HO_6 hb
         have n1_ := eK HO_8 ho0 hb
         have n2_ := rK HO283 hb
         have n3_ := nK ho0 HO_8
         have n4_ := sB hb
         clear HO_6
         clear HO_8
         clear HO283
         clear HB
         have HO_6 := n0_
         have HO_8 := n1_
         have HO283 := n2_
         have HO287 := n3_
         have HB := n4_
         clear n0_ n1_ n2_ n3_ n4_
         (try clear hb)
         (try clear hb2)
         (try clear hk)
         (try clear hi)
         (try clear ho0)
         refine hK.out _ _ (HS0_) (fun hHeld => ?_)
         clear hK K
         refine norm_ (a' := ?_) ?_ ?_
         rotate_left
         ·show Act.put _ (some 109) _ = _
          simp only [Act.put, List.setIfInBounds_toArray, List.set_cons_zero, List.set_cons_succ, i64_w, i32_w]
          rfl
         refine pure_ (i := 9) (N := some 100) (v := ?_) (a' := ?_) #[true, true, true, true, true, true, true, true, true, true, false, false, false, false] rfl rfl (any_of HT_.out (by kernel_rfl)) (fun _ _ _ h => h) (Or.inl ⟨by rfl, ?_⟩) ?_ ?_
         rotate_left
         ·intro w'
          go_simp
          with_reducible rfl
         rotate_left
         ·simp only [Act.put, List.setIfInBounds_toArray, List.set_cons_zero, List.set_cons_succ, i64_w, i32_w]
          rfl
         refine pure_ (i := 10) (N := some 110) (v := ?_) (a' := ?_) #[true, true, true, true, true, true, true, true, true, true, true, false, false, false] rfl rfl (any_of HT_.out (by kernel_rfl)) (fun _ _ _ h => h) (Or.inl ⟨by rfl, ?_⟩) ?_ ?_
         rotate_left
         ·intro w'
          go_simp
          with_reducible rfl
         rotate_left
         ·simp only [Act.put, List.setIfInBounds_toArray, List.set_cons_zero, List.set_cons_succ, i64_w, i32_w]
          rfl
         refine pure_ (i := 11) (N := some 111) (v := ?_) (a' := ?_) #[true, true, true, true, true, true, true, true, true, true, true, true, false, false] rfl rfl (any_of HT_.out (by kernel_rfl)) (fun _ _ _ h => h) (Or.inl ⟨by rfl, ?_⟩) ?_ ?_
         rotate_left
         ·intro w'
          go_simp
          with_reducible rfl
         rotate_left
         ·simp only [Act.put, List.setIfInBounds_toArray, List.set_cons_zero, List.set_cons_succ, i64_w, i32_w]
          rfl
         refine pure_ (i := 12) (N := some 15) (v := ?_) (a' := ?_) #[true, true, true, true, true, true, true, true, true, true, true, true, true, false] rfl rfl (any_of HT_.out (by kernel_rfl)) (fun _ _ _ h => h) (Or.inl ⟨by rfl, ?_⟩) ?_ ?_
         rotate_left
         ·intro w'
          go_simp
          with_reducible rfl
         rotate_left
         ·simp only [Act.put, List.setIfInBounds_toArray, List.set_cons_zero, List.set_cons_succ, i64_w, i32_w]
          rfl
         refine pure_ (i := 13) (N := some 16) (v := ?_) (a' := ?_) #[true, true, true, true, true, true, true, true, true, true, true, true, true, true] rfl rfl (any_of HT_.out (by kernel_rfl)) (fun _ _ _ h => h) (Or.inl ⟨by rfl, ?_⟩) ?_ ?_
         rotate_left
         ·intro w'
          go_simp
          with_reducible rfl
         rotate_left
         ·simp only [Act.put, List.setIfInBounds_toArray, List.set_cons_zero, List.set_cons_succ, i64_w, i32_w]
          rfl
         refine done_ (done_of HT_.out (by kernel_rfl)) ?_
         try go_wp2
         go_ret
         exact ⟨by first | rfl | (simp [errW_none, errW_some] <;> rfl) | (simp only [← hji9]; first | rfl | (simp [errW_none, errW_some] <;> rfl)) | (simp [*, errW_none, errW_some] <;> rfl), bQ⟩
        replace c53 := Bool.eq_false_iff.mpr c53
        subst c53
        rw [if_neg (show ¬ (false = true) by decide)] at H
        obtain rfl := Option.some.inj H
        try go_wp2
        have n0_ := aM (Kd.R_drew HO_6.out)
        have n1_ := aM (Kd.R_drew HO_8.out)
        have n2_ := aM (below_drew1 HB.out)
        clear HO_6
        clear HO_8
        clear HB
        have HO_6 := n0_
        have HO_8 := n1_
        have HB := n2_
        clear n0_ n1_ n2_
        have p280 : 0 ≤ (ji9 : Int) := of_decide_eq_true hQ
        have q280 : ji9 < (t267.length : Int) := of_decide_eq_true hQ
        obtain ⟨ad280, e280, hx280_0⟩ := Kd.at_string (Kd.R_reads' HO_6.out).2.2 ji9 p280 q280
        obtain rfl : ad270 = ad280 := (by injection e280)
        replace p280 := eq_true p280
        replace q280 := eq_true q280
        refine start_ (n := 14) (S := fun w' => w'.cell? (ad270.add (ji9).toNat) = some (.string (rdOf ByteArray.empty t267 ji9))) (ds := []) #[false, false, false, false, false, false, false, false, false, false, false, false, false, false] (by kernel_rfl) rfl rfl (hx280_0) (fun hHeld => ?_); refine with_tabW hornbooklaw14_GlyphNames.tab23 hornbooklaw14_GlyphNames.bits23 (fun HT_ HW_ => ?_)
        generalize wr.drew = w59 at HO_6 HO_8 HB hx280_0 hHeld ⊢
        refine pure_ (i := 0) (N := some 101) (v := ?_) (a' := ?_) #[true, false, false, false, false, false, false, false, false, false, false, false, false, false] rfl rfl (any_of HT_.out (by kernel_rfl)) (fun _ _ _ h => h) (Or.inl ⟨by rfl, ?_⟩) ?_ ?_
        rotate_left
        ·intro w'
         go_simp
         with_reducible rfl
        rotate_left
        ·simp only [Act.put, List.setIfInBounds_toArray, List.set_cons_zero, List.set_cons_succ, i64_w, i32_w]
         rfl
        refine pure_ (i := 1) (N := some 102) (v := ?_) (a' := ?_) #[true, true, false, false, false, false, false, false, false, false, false, false, false, false] rfl rfl (any_of HT_.out (by kernel_rfl)) (fun _ _ _ h => h) (Or.inl ⟨by rfl, ?_⟩) ?_ ?_
        rotate_left
        ·intro w'
         go_simp
         with_reducible rfl
        rotate_left
        ·simp only [Act.put, List.setIfInBounds_toArray, List.set_cons_zero, List.set_cons_succ, i64_w, i32_w]
         rfl
        refine pure_ (i := 2) (N := some 103) (v := ?_) (a' := ?_) #[true, true, true, false, false, false, false, false, false, false, false, false, false, false] rfl rfl (any_of HT_.out (by kernel_rfl)) (fun _ _ _ h => h) (Or.inl ⟨by rfl, ?_⟩) ?_ ?_
        rotate_left
        ·intro w'
         go_simp
         with_reducible rfl
        rotate_left
        ·simp only [Act.put, List.setIfInBounds_toArray, List.set_cons_zero, List.set_cons_succ, i64_w, i32_w]
         rfl
        refine pure_ (i := 4) (N := some 105) (v := ?_) (a' := ?_) #[true, true, true, false, true, false, false, false, false, false, false, false, false, false] rfl rfl (any_of HT_.out (by kernel_rfl)) (fun _ _ _ h => h) (Or.inl ⟨by rfl, ?_⟩) ?_ ?_
        rotate_left
        ·intro w'
         go_simp
         with_reducible rfl
        rotate_left
        ·simp only [Act.put, List.setIfInBounds_toArray, List.set_cons_zero, List.set_cons_succ, i64_w, i32_w]
         rfl
        refine take_ (i := 3) (N := some 104) (v := ?_) (a' := ?_) #[true, true, true, true, true, false, false, false, false, false, false, false, false, false] rfl rfl (take_ofW HT_.out HW_.out (by kernel_rfl)) (fun _ _ _ h => h) (Or.inl ⟨by rfl, ?_⟩) hHeld ?_ ?_
        rotate_left
        ·intro w' s0
         go_simp
         with_reducible rfl
        rotate_left
        ·simp only [Act.put, List.setIfInBounds_toArray, List.set_cons_zero, List.set_cons_succ, i64_w, i32_w]
         rfl
        refine one_ (i := 5) (N := some 106) #[true, true, true, true, true, true, false, false, false, false, false, false, false, false] rfl rfl (one_of HT_.out (by kernel_rfl)) (by decide) (fun K hK => ?_)
        refine Kd.R_lit_step (Kd.int .u8) _ 5 ?hg (N := 106) ?hd (xs := ([a1] : List Int)) (inner := [.int .u8 a1]) (ok := fun _ => True) (okp := fun _ => True) ?hr ?hp (fun _ hk => hk) trivial (Below.refl _ _) (Nat.le_refl _) (by simp) ?_; (case hd => rfl); (case hg => rfl); (case hr => first | (go_simp; done) | (go_simp; rfl)); (case hp => exact (Reps.one (show Kd.M (Kd.int .u8) _ _ _ a1 [.int .u8 a1] from rfl) (Reps.none _ _)))
        intro v282 w60 ho61 hb hg_ hnew_
        have HS0_ := (hb.cell (World.block_lt_of_cell? _ _ (hHeld))).trans (hHeld)
        clear hg_ hnew_
        (first | rw [← Ny281.out] at ho61 | (simp only [Int.reduceToNat] at ho61; rw [← Ny281.out] at ho61))
        have n0_ := rK HO_6 hb
        have n1_ := rK HO_8 hb
        have n2_ := lK ho61
        have n3_ := sB hb
        clear HO_6
        clear HO_8
        clear HB
        have HO_6 := n0_
        have HO_8 := n1_
        have HO283 := n2_
        have HB := n3_
        clear n0_ n1_ n2_ n3_
        clear hb ho61
        refine hK.out _ _ (HS0_) (fun hHeld => ?_)
        clear hK K
        refine norm_ (a' := ?_) ?_ ?_
        rotate_left
        ·show Act.put _ (some 106) _ = _
         simp only [Act.put, List.setIfInBounds_toArray, List.set_cons_zero, List.set_cons_succ, i64_w, i32_w]
         rfl
        refine one_ (i := 6) (N := some 107) #[true, true, true, true, true, true, true, false, false, false, false, false, false, false] rfl rfl (one_of HT_.out (by kernel_rfl)) (by decide) (fun K hK => ?_)
        have hcv62 := own_string (P := Tryd.prog) Tryd.underlying34 Tryd.underlying5 Tryd.underlying9 (Kd.own_of_R HO283.out)
        refine value_ (w1 := ?_) (v := ?_) (by rfl) rfl ?_ ?_
        rotate_left 2
        ·go_simp
         constructor
         ·rfl
         ·rfl
        clear hcv62
        refine hK.out _ _ (hHeld) (fun hHeld => ?_)
        clear hK K
        refine norm_ (a' := ?_) ?_ ?_
        rotate_left
        ·show Act.put _ (some 107) _ = _
         simp only [Act.put, List.setIfInBounds_toArray, List.set_cons_zero, List.set_cons_succ, i64_w, i32_w]
         rfl
        refine pure_ (i := 7) (N := some 108) (v := ?_) (a' := ?_) #[true, true, true, true, true, true, true, true, false, false, false, false, false, false] rfl rfl (any_of HT_.out (by kernel_rfl)) (fun _ _ _ h => h) (Or.inl ⟨by rfl, ?_⟩) ?_ ?_
        rotate_left
        ·intro w'
         go_simp
         with_reducible rfl
        rotate_left
        ·simp only [Act.put, List.setIfInBounds_toArray, List.set_cons_zero, List.set_cons_succ, i64_w, i32_w]
         rfl
        refine one_ (i := 8) (N := some 109) #[true, true, true, true, true, true, true, true, true, false, false, false, false, false] rfl rfl (one_of HT_.out (by kernel_rfl)) (by decide) (fun K hK => ?_)
        refine goes_ Tryd.func7 (by kernel_rfl) rfl #[.string ((rdOf ByteArray.empty t267 ji9) ++ (strOfNums y281))] (by rfl) rfl rfl (by (try simp only [List.map_toArray, List.map_cons, List.map_nil]); first | done | (simp only [hji9]; rfl) | rfl | (simp only [List.length_drop, List.length_take]; rfl)) ?_
        with_reducible refine (glyph_Uni.calls k3 ((rdOf ByteArray.empty t267 ji9) ++ (strOfNums y281)) t284 false _ ?side1 A50.out).mono ?_
        (case side1 => exact gQ HG.out)
        rintro e w63 ⟨v286, rfl, ho0, hb⟩
        have HS0_ := (hb.cell (World.block_lt_of_cell? _ _ (hHeld))).trans (hHeld)
        refine ⟨_, rfl, ?_⟩
        have n0_ := rK HO_6 hb
        have n1_ := eK HO_8 ho0 hb
        have n2_ := rK HO283 hb
        have n3_ := nK ho0 HO_8
        have n4_ := sB hb
        clear HO_6
        clear HO_8
        clear HO283
        clear HB
        have HO_6 := n0_
        have HO_8 := n1_
        have HO283 := n2_
        have HO287 := n3_
        have HB := n4_
        clear n0_ n1_ n2_ n3_ n4_
        (try clear hb)
        (try clear hb2)
        (try clear hk)
        (try clear hi)
        (try clear ho0)
        refine hK.out _ _ (HS0_) (fun hHeld => ?_)
        clear hK K
        refine norm_ (a' := ?_) ?_ ?_
        rotate_left
        ·show Act.put _ (some 109) _ = _
         simp only [Act.put, List.setIfInBounds_toArray, List.set_cons_zero, List.set_cons_succ, i64_w, i32_w]
         rfl
        refine pure_ (i := 9) (N := some 100) (v := ?_) (a' := ?_) #[true, true, true, true, true, true, true, true, true, true, false, false, false, false] rfl rfl (any_of HT_.out (by kernel_rfl)) (fun _ _ _ h => h) (Or.inl ⟨by rfl, ?_⟩) ?_ ?_
        rotate_left
        ·intro w'
         go_simp
         with_reducible rfl
        rotate_left
        ·simp only [Act.put, List.setIfInBounds_toArray, List.set_cons_zero, List.set_cons_succ, i64_w, i32_w]
         rfl
        refine pure_ (i := 10) (N := some 110) (v := ?_) (a' := ?_) #[true, true, true, true, true, true, true, true, true, true, true, false, false, false] rfl rfl (any_of HT_.out (by kernel_rfl)) (fun _ _ _ h => h) (Or.inl ⟨by rfl, ?_⟩) ?_ ?_
        rotate_left
        ·intro w'
         go_simp
         with_reducible rfl
        rotate_left
        ·simp only [Act.put, List.setIfInBounds_toArray, List.set_cons_zero, List.set_cons_succ, i64_w, i32_w]
         rfl
        refine pure_ (i := 11) (N := some 111) (v := ?_) (a' := ?_) #[true, true, true, true, true, true, true, true, true, true, true, true, false, false] rfl rfl (any_of HT_.out (by kernel_rfl)) (fun _ _ _ h => h) (Or.inl ⟨by rfl, ?_⟩) ?_ ?_
        rotate_left
        ·intro w'
         go_simp
         with_reducible rfl
        rotate_left
        ·simp only [Act.put, List.setIfInBounds_toArray, List.set_cons_zero, List.set_cons_succ, i64_w, i32_w]
         rfl
        refine pure_ (i := 12) (N := some 15) (v := ?_) (a' := ?_) #[true, true, true, true, true, true, true, true, true, true, true, true, true, false] rfl rfl (any_of HT_.out (by kernel_rfl)) (fun _ _ _ h => h) (Or.inl ⟨by rfl, ?_⟩) ?_ ?_
        rotate_left
        ·intro w'
         go_simp
         with_reducible rfl
        rotate_left
        ·simp only [Act.put, List.setIfInBounds_toArray, List.set_cons_zero, List.set_cons_succ, i64_w, i32_w]
         rfl
        refine pure_ (i := 13) (N := some 16) (v := ?_) (a' := ?_) #[true, true, true, true, true, true, true, true, true, true, true, true, true, true] rfl rfl (any_of HT_.out (by kernel_rfl)) (fun _ _ _ h => h) (Or.inl ⟨by rfl, ?_⟩) ?_ ?_
        rotate_left
        ·intro w'
         go_simp
         with_reducible rfl
        rotate_left
        ·simp only [Act.put, List.setIfInBounds_toArray, List.set_cons_zero, List.set_cons_succ, i64_w, i32_w]
         rfl
        refine done_ (done_of HT_.out (by kernel_rfl)) ?_
        obtain ⟨Ao64, co64, eo64⟩ := Kd.R_slice HO287.out
        subst eo64
        try go_wp2
        go_ret
        exact ⟨by first | rfl | (simp [errW_none, errW_some] <;> rfl) | (simp only [← hji9]; first | rfl | (simp [errW_none, errW_some] <;> rfl)) | (simp [*, errW_none, errW_some] <;> rfl), bQ⟩
       refine iNc H ?_ ?_<;>clear H<;>intro H c65
       rotate_left
       ·have c65b0 : decide (0 ≤ x11_3) = false := decide_eq_false c65
        clear c65
        exact absurd ((Option.some.inj H).trans HRT.out) (by decide)
       have c65b0 : decide (0 ≤ x11_3) = true := decide_eq_true c65
       clear c65
       refine iD H ?_ ?_<;>clear H<;>intro H c66b0
       rotate_left
       ·exact absurd ((Option.some.inj H).trans HRT.out) (by decide)
       by_cases c67 : t285 = true
       ·subst c67
        rw [if_pos rfl] at H
        obtain rfl := Option.some.inj H
        try go_wp2
        have n0_ := aM (Kd.R_drew HO_6.out)
        have n1_ := aM (Kd.R_drew HO_8.out)
        have n2_ := aM (below_drew1 HB.out)
        clear HO_6
        clear HO_8
        clear HB
        have HO_6 := n0_
        have HO_8 := n1_
        have HB := n2_
        clear n0_ n1_ n2_
        have p280 : 0 ≤ (ji9 : Int) := of_decide_eq_true hQ
        have q280 : ji9 < (t267.length : Int) := of_decide_eq_true hQ
        obtain ⟨ad280, e280, hx280_0⟩ := Kd.at_string (Kd.R_reads' HO_6.out).2.2 ji9 p280 q280
        obtain rfl : ad270 = ad280 := (by injection e280)
        replace p280 := eq_true p280
        replace q280 := eq_true q280
        refine start_ (n := 14) (S := fun w' => w'.cell? (ad270.add (ji9).toNat) = some (.string (rdOf ByteArray.empty t267 ji9))) (ds := []) #[false, false, false, false, false, false, false, false, false, false, false, false, false, false] (by kernel_rfl) rfl rfl (hx280_0) (fun hHeld => ?_); refine with_tabW hornbooklaw14_GlyphNames.tab23 hornbooklaw14_GlyphNames.bits23 (fun HT_ HW_ => ?_)
        generalize wr.drew = w68 at HO_6 HO_8 HB hx280_0 hHeld ⊢
        refine pure_ (i := 0) (N := some 101) (v := ?_) (a' := ?_) #[true, false, false, false, false, false, false, false, false, false, false, false, false, false] rfl rfl (any_of HT_.out (by kernel_rfl)) (fun _ _ _ h => h) (Or.inl ⟨by rfl, ?_⟩) ?_ ?_
        rotate_left
        ·intro w'
         go_simp
         with_reducible rfl
        rotate_left
        ·simp only [Act.put, List.setIfInBounds_toArray, List.set_cons_zero, List.set_cons_succ, i64_w, i32_w]
         rfl
        refine pure_ (i := 1) (N := some 102) (v := ?_) (a' := ?_) #[true, true, false, false, false, false, false, false, false, false, false, false, false, false] rfl rfl (any_of HT_.out (by kernel_rfl)) (fun _ _ _ h => h) (Or.inl ⟨by rfl, ?_⟩) ?_ ?_
        rotate_left
        ·intro w'
         go_simp
         with_reducible rfl
        rotate_left
        ·simp only [Act.put, List.setIfInBounds_toArray, List.set_cons_zero, List.set_cons_succ, i64_w, i32_w]
         rfl
        refine pure_ (i := 2) (N := some 103) (v := ?_) (a' := ?_) #[true, true, true, false, false, false, false, false, false, false, false, false, false, false] rfl rfl (any_of HT_.out (by kernel_rfl)) (fun _ _ _ h => h) (Or.inl ⟨by rfl, ?_⟩) ?_ ?_
        rotate_left
        ·intro w'
         go_simp
         with_reducible rfl
        rotate_left
        ·simp only [Act.put, List.setIfInBounds_toArray, List.set_cons_zero, List.set_cons_succ, i64_w, i32_w]
         rfl
        refine pure_ (i := 4) (N := some 105) (v := ?_) (a' := ?_) #[true, true, true, false, true, false, false, false, false, false, false, false, false, false] rfl rfl (any_of HT_.out (by kernel_rfl)) (fun _ _ _ h => h) (Or.inl ⟨by rfl, ?_⟩) ?_ ?_
        rotate_left
        ·intro w'
         go_simp
         with_reducible rfl
        rotate_left
        ·simp only [Act.put, List.setIfInBounds_toArray, List.set_cons_zero, List.set_cons_succ, i64_w, i32_w]
         rfl
        refine take_ (i := 3) (N := some 104) (v := ?_) (a' := ?_) #[true, true, true, true, true, false, false, false, false, false, false, false, false, false] rfl rfl (take_ofW HT_.out HW_.out (by kernel_rfl)) (fun _ _ _ h => h) (Or.inl ⟨by rfl, ?_⟩) hHeld ?_ ?_
        rotate_left
        ·intro w' s0
         go_simp
         with_reducible rfl
        rotate_left
        ·simp only [Act.put, List.setIfInBounds_toArray, List.set_cons_zero, List.set_cons_succ, i64_w, i32_w]
         rfl
        refine one_ (i := 5) (N := some 106) #[true, true, true, true, true, true, false, false, false, false, false, false, false, false] rfl rfl (one_of HT_.out (by kernel_rfl)) (by decide) (fun K hK => ?_)
        refine Kd.R_lit_step (Kd.int .u8) _ 5 ?hg (N := 106) ?hd (xs := ([a1] : List Int)) (inner := [.int .u8 a1]) (ok := fun _ => True) (okp := fun _ => True) ?hr ?hp (fun _ hk => hk) trivial (Below.refl _ _) (Nat.le_refl _) (by simp) ?_; (case hd => rfl); (case hg => rfl); (case hr => first | (go_simp; done) | (go_simp; rfl)); (case hp => exact (Reps.one (show Kd.M (Kd.int .u8) _ _ _ a1 [.int .u8 a1] from rfl) (Reps.none _ _)))
        intro v282 w69 ho70 hb hg_ hnew_
        have HS0_ := (hb.cell (World.block_lt_of_cell? _ _ (hHeld))).trans (hHeld)
        clear hg_ hnew_
        (first | rw [← Ny281.out] at ho70 | (simp only [Int.reduceToNat] at ho70; rw [← Ny281.out] at ho70))
        have n0_ := rK HO_6 hb
        have n1_ := rK HO_8 hb
        have n2_ := lK ho70
        have n3_ := sB hb
        clear HO_6
        clear HO_8
        clear HB
        have HO_6 := n0_
        have HO_8 := n1_
        have HO283 := n2_
        have HB := n3_
        clear n0_ n1_ n2_ n3_
        clear hb ho70
        refine hK.out _ _ (HS0_) (fun hHeld => ?_)
        clear hK K
        refine norm_ (a' := ?_) ?_ ?_
        rotate_left
        ·show Act.put _ (some 106) _ = _
         simp only [Act.put, List.setIfInBounds_toArray, List.set_cons_zero, List.set_cons_succ, i64_w, i32_w]
         rfl
        refine one_ (i := 6) (N := some 107) #[true, true, true, true, true, true, true, false, false, false, false, false, false, false] rfl rfl (one_of HT_.out (by kernel_rfl)) (by decide) (fun K hK => ?_)
        have hcv71 := own_string (P := Tryd.prog) Tryd.underlying34 Tryd.underlying5 Tryd.underlying9 (Kd.own_of_R HO283.out)
        refine value_ (w1 := ?_) (v := ?_) (by rfl) rfl ?_ ?_
        rotate_left 2
        ·go_simp
         constructor
         ·rfl
         ·rfl
        clear hcv71
        refine hK.out _ _ (hHeld) (fun hHeld => ?_)
        clear hK K
        refine norm_ (a' := ?_) ?_ ?_
        rotate_left
        ·show Act.put _ (some 107) _ = _
         simp only [Act.put, List.setIfInBounds_toArray, List.set_cons_zero, List.set_cons_succ, i64_w, i32_w]
         rfl
        refine pure_ (i := 7) (N := some 108) (v := ?_) (a' := ?_) #[true, true, true, true, true, true, true, true, false, false, false, false, false, false] rfl rfl (any_of HT_.out (by kernel_rfl)) (fun _ _ _ h => h) (Or.inl ⟨by rfl, ?_⟩) ?_ ?_
        rotate_left
        ·intro w'
         go_simp
         with_reducible rfl
        rotate_left
        ·simp only [Act.put, List.setIfInBounds_toArray, List.set_cons_zero, List.set_cons_succ, i64_w, i32_w]
         rfl
        refine one_ (i := 8) (N := some 109) #[true, true, true, true, true, true, true, true, true, false, false, false, false, false] rfl rfl (one_of HT_.out (by kernel_rfl)) (by decide) (fun K hK => ?_)
        refine goes_ Tryd.func7 (by kernel_rfl) rfl #[.string ((rdOf ByteArray.empty t267 ji9) ++ (strOfNums y281))] (by rfl) rfl rfl (by (try simp only [List.map_toArray, List.map_cons, List.map_nil]); first | done | (simp only [hji9]; rfl) | rfl | (simp only [List.length_drop, List.length_take]; rfl)) ?_
        with_reducible refine (glyph_Uni.calls k3 ((rdOf ByteArray.empty t267 ji9) ++ (strOfNums y281)) t284 true _ ?side1 A50.out).mono ?_
        (case side1 => exact gQ HG.out)
        rintro e w72 ⟨v286, rfl, ho0, hb⟩
        have HS0_ := (hb.cell (World.block_lt_of_cell? _ _ (hHeld))).trans (hHeld)
        refine ⟨_, rfl, ?_⟩
        have n0_ := rK HO_6 hb
        have n1_ := eK HO_8 ho0 hb
        have n2_ := rK HO283 hb
        have n3_ := nK ho0 HO_8
        have n4_ := sB hb
        clear HO_6
        clear HO_8
        clear HO283
        clear HB
        have HO_6 := n0_
        have HO_8 := n1_
        have HO283 := n2_
        have HO287 := n3_
        have HB := n4_
        clear n0_ n1_ n2_ n3_ n4_
        (try clear hb)
        (try clear hb2)
        (try clear hk)
        (try clear hi)
        (try clear ho0)
        refine hK.out _ _ (HS0_) (fun hHeld => ?_)
        clear hK K
        refine norm_ (a' := ?_) ?_ ?_
        rotate_left
        ·show Act.put _ (some 109) _ = _
         simp only [Act.put, List.setIfInBounds_toArray, List.set_cons_zero, List.set_cons_succ, i64_w, i32_w]
         rfl
        refine pure_ (i := 9) (N := some 100) (v := ?_) (a' := ?_) #[true, true, true, true, true, true, true, true, true, true, false, false, false, false] rfl rfl (any_of HT_.out (by kernel_rfl)) (fun _ _ _ h => h) (Or.inl ⟨by rfl, ?_⟩) ?_ ?_
        rotate_left
        ·intro w'
         go_simp
         with_reducible rfl
        rotate_left
        ·simp only [Act.put, List.setIfInBounds_toArray, List.set_cons_zero, List.set_cons_succ, i64_w, i32_w]
         rfl
        refine pure_ (i := 10) (N := some 110) (v := ?_) (a' := ?_) #[true, true, true, true, true, true, true, true, true, true, true, false, false, false] rfl rfl (any_of HT_.out (by kernel_rfl)) (fun _ _ _ h => h) (Or.inl ⟨by rfl, ?_⟩) ?_ ?_
        rotate_left
        ·intro w'
         go_simp
         with_reducible rfl
        rotate_left
        ·simp only [Act.put, List.setIfInBounds_toArray, List.set_cons_zero, List.set_cons_succ, i64_w, i32_w]
         rfl
        refine pure_ (i := 11) (N := some 111) (v := ?_) (a' := ?_) #[true, true, true, true, true, true, true, true, true, true, true, true, false, false] rfl rfl (any_of HT_.out (by kernel_rfl)) (fun _ _ _ h => h) (Or.inl ⟨by rfl, ?_⟩) ?_ ?_
        rotate_left
        ·intro w'
         go_simp
         with_reducible rfl
        rotate_left
        ·simp only [Act.put, List.setIfInBounds_toArray, List.set_cons_zero, List.set_cons_succ, i64_w, i32_w]
         rfl
        refine pure_ (i := 12) (N := some 15) (v := ?_) (a' := ?_) #[true, true, true, true, true, true, true, true, true, true, true, true, true, false] rfl rfl (any_of HT_.out (by kernel_rfl)) (fun _ _ _ h => h) (Or.inl ⟨by rfl, ?_⟩) ?_ ?_
        rotate_left
        ·intro w'
         go_simp
         with_reducible rfl
        rotate_left
        ·simp only [Act.put, List.setIfInBounds_toArray, List.set_cons_zero, List.set_cons_succ, i64_w, i32_w]
         rfl
        refine pure_ (i := 13) (N := some 16) (v := ?_) (a' := ?_) #[true, true, true, true, true, true, true, true, true, true, true, true, true, true] rfl rfl (any_of HT_.out (by kernel_rfl)) (fun _ _ _ h => h) (Or.inl ⟨by rfl, ?_⟩) ?_ ?_
        rotate_left
        ·intro w'
         go_simp
         with_reducible rfl
        rotate_left
        ·simp only [Act.put, List.setIfInBounds_toArray, List.set_cons_zero, List.set_cons_succ, i64_w, i32_w]
         rfl
        refine done_ (done_of HT_.out (by kernel_rfl)) ?_
        try go_wp2
        go_ret
        exact ⟨by first | rfl | (simp [errW_none, errW_some] <;> rfl) | (simp only [← hji9]; first | rfl | (simp [errW_none, errW_some] <;> rfl)) | (simp [*, errW_none, errW_some] <;> rfl), bQ⟩
       replace c67 := Bool.eq_false_iff.mpr c67
       subst c67
       rw [if_neg (show ¬ (false = true) by decide)] at H
       obtain rfl := Option.some.inj H
       try go_wp2
       have n0_ := aM (Kd.R_drew HO_6.out)
       have n1_ := aM (Kd.R_drew HO_8.out)
       have n2_ := aM (below_drew1 HB.out)
       clear HO_6
       clear HO_8
       clear HB
       have HO_6 := n0_
       have HO_8 := n1_
       have HB := n2_
       clear n0_ n1_ n2_
       have p280 : 0 ≤ (ji9 : Int) := of_decide_eq_true hQ
       have q280 : ji9 < (t267.length : Int) := of_decide_eq_true hQ
       obtain ⟨ad280, e280, hx280_0⟩ := Kd.at_string (Kd.R_reads' HO_6.out).2.2 ji9 p280 q280
       obtain rfl : ad270 = ad280 := (by injection e280)
       replace p280 := eq_true p280
       replace q280 := eq_true q280
       refine start_ (n := 14) (S := fun w' => w'.cell? (ad270.add (ji9).toNat) = some (.string (rdOf ByteArray.empty t267 ji9))) (ds := []) #[false, false, false, false, false, false, false, false, false, false, false, false, false, false] (by kernel_rfl) rfl rfl (hx280_0) (fun hHeld => ?_); refine with_tabW hornbooklaw14_GlyphNames.tab23 hornbooklaw14_GlyphNames.bits23 (fun HT_ HW_ => ?_)
       generalize wr.drew = w73 at HO_6 HO_8 HB hx280_0 hHeld ⊢
       refine pure_ (i := 0) (N := some 101) (v := ?_) (a' := ?_) #[true, false, false, false, false, false, false, false, false, false, false, false, false, false] rfl rfl (any_of HT_.out (by kernel_rfl)) (fun _ _ _ h => h) (Or.inl ⟨by rfl, ?_⟩) ?_ ?_
       rotate_left
       ·intro w'
        go_simp
        with_reducible rfl
       rotate_left
       ·simp only [Act.put, List.setIfInBounds_toArray, List.set_cons_zero, List.set_cons_succ, i64_w, i32_w]
        rfl
       refine pure_ (i := 1) (N := some 102) (v := ?_) (a' := ?_) #[true, true, false, false, false, false, false, false, false, false, false, false, false, false] rfl rfl (any_of HT_.out (by kernel_rfl)) (fun _ _ _ h => h) (Or.inl ⟨by rfl, ?_⟩) ?_ ?_
       rotate_left
       ·intro w'
        go_simp
        with_reducible rfl
       rotate_left
       ·simp only [Act.put, List.setIfInBounds_toArray, List.set_cons_zero, List.set_cons_succ, i64_w, i32_w]
        rfl
       refine pure_ (i := 2) (N := some 103) (v := ?_) (a' := ?_) #[true, true, true, false, false, false, false, false, false, false, false, false, false, false] rfl rfl (any_of HT_.out (by kernel_rfl)) (fun _ _ _ h => h) (Or.inl ⟨by rfl, ?_⟩) ?_ ?_
       rotate_left
       ·intro w'
        go_simp
        with_reducible rfl
       rotate_left
       ·simp only [Act.put, List.setIfInBounds_toArray, List.set_cons_zero, List.set_cons_succ, i64_w, i32_w]
        rfl
       refine pure_ (i := 4) (N := some 105) (v := ?_) (a' := ?_) #[true, true, true, false, true, false, false, false, false, false, false, false, false, false] rfl rfl (any_of HT_.out (by kernel_rfl)) (fun _ _ _ h => h) (Or.inl ⟨by rfl, ?_⟩) ?_ ?_
       rotate_left
       ·intro w'
        go_simp
        with_reducible rfl
       rotate_left
       ·simp only [Act.put, List.setIfInBounds_toArray, List.set_cons_zero, List.set_cons_succ, i64_w, i32_w]
        rfl
       refine take_ (i := 3) (N := some 104) (v := ?_) (a' := ?_) #[true, true, true, true, true, false, false, false, false, false, false, false, false, false] rfl rfl (take_ofW HT_.out HW_.out (by kernel_rfl)) (fun _ _ _ h => h) (Or.inl ⟨by rfl, ?_⟩) hHeld ?_ ?_
       rotate_left
       ·intro w' s0
        go_simp
        with_reducible rfl
       rotate_left
       ·simp only [Act.put, List.setIfInBounds_toArray, List.set_cons_zero, List.set_cons_succ, i64_w, i32_w]
        rfl
       refine one_ (i := 5) (N := some 106) #[true, true, true, true, true, true, false, false, false, false, false, false, false, false] rfl rfl (one_of HT_.out (by kernel_rfl)) (by decide) (fun K hK => ?_)
       refine Kd.R_lit_step (Kd.int .u8) _ 5 ?hg (N := 106) ?hd (xs := ([a1] : List Int)) (inner := [.int .u8 a1]) (ok := fun _ => True) (okp := fun _ => True) ?hr ?hp (fun _ hk => hk) trivial (Below.refl _ _) (Nat.le_refl _) (by simp) ?_; (case hd => rfl); (case hg => rfl); (case hr => first | (go_simp; done) | (go_simp; rfl)); (case hp => exact (Reps.one (show Kd.M (Kd.int .u8) _ _ _ a1 [.int .u8 a1] from rfl) (Reps.none _ _)))
       intro v282 w74 ho75 hb hg_ hnew_
       have HS0_ := (hb.cell (World.block_lt_of_cell? _ _ (hHeld))).trans (hHeld)
       clear hg_ hnew_
       (first | rw [← Ny281.out] at ho75 | (simp only [Int.reduceToNat] at ho75; rw [← Ny281.out] at ho75))
       have n0_ := rK HO_6 hb
       have n1_ := rK HO_8 hb
       have n2_ := lK ho75
       have n3_ := sB hb
       clear HO_6
       clear HO_8
       clear HB
       have HO_6 := n0_
       have HO_8 := n1_
       have HO283 := n2_
       have HB := n3_
       clear n0_ n1_ n2_ n3_
       clear hb ho75
       refine hK.out _ _ (HS0_) (fun hHeld => ?_)
       clear hK K
       refine norm_ (a' := ?_) ?_ ?_
       rotate_left
       ·show Act.put _ (some 106) _ = _
        simp only [Act.put, List.setIfInBounds_toArray, List.set_cons_zero, List.set_cons_succ, i64_w, i32_w]
        rfl
       refine one_ (i := 6) (N := some 107) #[true, true, true, true, true, true, true, false, false, false, false, false, false, false] rfl rfl (one_of HT_.out (by kernel_rfl)) (by decide) (fun K hK => ?_)
       have hcv76 := own_string (P := Tryd.prog) Tryd.underlying34 Tryd.underlying5 Tryd.underlying9 (Kd.own_of_R HO283.out)
       refine value_ (w1 := ?_) (v := ?_) (by rfl) rfl ?_ ?_
       rotate_left 2
       ·go_simp
        constructor
        ·rfl
        ·rfl
       clear hcv76
       refine hK.out _ _ (hHeld) (fun hHeld => ?_)
       clear hK K
       refine norm_ (a' := ?_) ?_ ?_
       rotate_left
       ·show Act.put _ (some 107) _ = _
        simp only [Act.put, List.setIfInBounds_toArray, List.set_cons_zero, List.set_cons_succ, i64_w, i32_w]
        rfl
       refine pure_ (i := 7) (N := some 108) (v := ?_) (a' := ?_) #[true, true, true, true, true, true, true, true, false, false, false, false, false, false] rfl rfl (any_of HT_.out (by kernel_rfl)) (fun _ _ _ h => h) (Or.inl ⟨by rfl, ?_⟩) ?_ ?_
       rotate_left
       ·intro w'
        go_simp
        with_reducible rfl
       rotate_left
       ·simp only [Act.put, List.setIfInBounds_toArray, List.set_cons_zero, List.set_cons_succ, i64_w, i32_w]
        rfl
       refine one_ (i := 8) (N := some 109) #[true, true, true, true, true, true, true, true, true, false, false, false, false, false] rfl rfl (one_of HT_.out (by kernel_rfl)) (by decide) (fun K hK => ?_)
       refine goes_ Tryd.func7 (by kernel_rfl) rfl #[.string ((rdOf ByteArray.empty t267 ji9) ++ (strOfNums y281))] (by rfl) rfl rfl (by (try simp only [List.map_toArray, List.map_cons, List.map_nil]); first | done | (simp only [hji9]; rfl) | rfl | (simp only [List.length_drop, List.length_take]; rfl)) ?_
       with_reducible refine (glyph_Uni.calls k3 ((rdOf ByteArray.empty t267 ji9) ++ (strOfNums y281)) t284 false _ ?side1 A50.out).mono ?_
       (case side1 => exact gQ HG.out)
       rintro e w77 ⟨v286, rfl, ho0, hb⟩
       have HS0_ := (hb.cell (World.block_lt_of_cell? _ _ (hHeld))).trans (hHeld)
       refine ⟨_, rfl, ?_⟩
       have n0_ := rK HO_6 hb
       have n1_ := eK HO_8 ho0 hb
       have n2_ := rK HO283 hb
       have n3_ := nK ho0 HO_8
       have n4_ := sB hb
       clear HO_6
       clear HO_8
       clear HO283
       clear HB
       have HO_6 := n0_
       have HO_8 := n1_
       have HO283 := n2_
       have HO287 := n3_
       have HB := n4_
       clear n0_ n1_ n2_ n3_ n4_
       (try clear hb)
       (try clear hb2)
       (try clear hk)
       (try clear hi)
       (try clear ho0)
       refine hK.out _ _ (HS0_) (fun hHeld => ?_)
       clear hK K
       refine norm_ (a' := ?_) ?_ ?_
       rotate_left
       ·show Act.put _ (some 109) _ = _
        simp only [Act.put, List.setIfInBounds_toArray, List.set_cons_zero, List.set_cons_succ, i64_w, i32_w]
        rfl
       refine pure_ (i := 9) (N := some 100) (v := ?_) (a' := ?_) #[true, true, true, true, true, true, true, true, true, true, false, false, false, false] rfl rfl (any_of HT_.out (by kernel_rfl)) (fun _ _ _ h => h) (Or.inl ⟨by rfl, ?_⟩) ?_ ?_
       rotate_left
       ·intro w'
        go_simp
        with_reducible rfl
       rotate_left
       ·simp only [Act.put, List.setIfInBounds_toArray, List.set_cons_zero, List.set_cons_succ, i64_w, i32_w]
        rfl
       refine pure_ (i := 10) (N := some 110) (v := ?_) (a' := ?_) #[true, true, true, true, true, true, true, true, true, true, true, false, false, false] rfl rfl (any_of HT_.out (by kernel_rfl)) (fun _ _ _ h => h) (Or.inl ⟨by rfl, ?_⟩) ?_ ?_
       rotate_left
       ·intro w'
        go_simp
        with_reducible rfl
       rotate_left
       ·simp only [Act.put, List.setIfInBounds_toArray, List.set_cons_zero, List.set_cons_succ, i64_w, i32_w]
        rfl
       refine pure_ (i := 11) (N := some 111) (v := ?_) (a' := ?_) #[true, true, true, true, true, true, true, true, true, true, true, true, false, false] rfl rfl (any_of HT_.out (by kernel_rfl)) (fun _ _ _ h => h) (Or.inl ⟨by rfl, ?_⟩) ?_ ?_
       rotate_left
       ·intro w'
        go_simp
        with_reducible rfl
       rotate_left
       ·simp only [Act.put, List.setIfInBounds_toArray, List.set_cons_zero, List.set_cons_succ, i64_w, i32_w]
        rfl
       refine pure_ (i := 12) (N := some 15) (v := ?_) (a' := ?_) #[true, true, true, true, true, true, true, true, true, true, true, true, true, false] rfl rfl (any_of HT_.out (by kernel_rfl)) (fun _ _ _ h => h) (Or.inl ⟨by rfl, ?_⟩) ?_ ?_
       rotate_left
       ·intro w'
        go_simp
        with_reducible rfl
       rotate_left
       ·simp only [Act.put, List.setIfInBounds_toArray, List.set_cons_zero, List.set_cons_succ, i64_w, i32_w]
        rfl
       refine pure_ (i := 13) (N := some 16) (v := ?_) (a' := ?_) #[true, true, true, true, true, true, true, true, true, true, true, true, true, true] rfl rfl (any_of HT_.out (by kernel_rfl)) (fun _ _ _ h => h) (Or.inl ⟨by rfl, ?_⟩) ?_ ?_
       rotate_left
       ·intro w'
        go_simp
        with_reducible rfl
       rotate_left
       ·simp only [Act.put, List.setIfInBounds_toArray, List.set_cons_zero, List.set_cons_succ, i64_w, i32_w]
        rfl
       refine done_ (done_of HT_.out (by kernel_rfl)) ?_
       obtain ⟨Ao78, co78, eo78⟩ := Kd.R_slice HO287.out
       subst eo78
       try go_wp2
       go_ret
       exact ⟨by first | rfl | (simp [errW_none, errW_some] <;> rfl) | (simp only [← hji9]; first | rfl | (simp [errW_none, errW_some] <;> rfl)) | (simp [*, errW_none, errW_some] <;> rfl), bQ⟩
/-- THE ONE PURE STATEMENT of hornbooklaw14_GlyphNames: yours. -/
def hornbooklaw14_GlyphNames.Pure : Prop := ∀ (a0 : Int) (a1 : Int), (Lit.int .i64 a0).wf = true → (Lit.int .u8 a1).wf = true → ∃ k, hornbooklaw14_GlyphNames.f k a0 a1 = some true
theorem hornbooklaw14_GlyphNames.walk (P : hornbooklaw14_GlyphNames.Pure) (a0 : Int) (a1 : Int) (w : World) (w0 : (Lit.int .i64 a0).wf = true) (w1 : (Lit.int .u8 a1).wf = true)(hG : GW w) :
  Calls Tryd.prog 4 #[.int .i64 a0, .int .u8 a1] w fun e w' => e = .returned (.bool true) ∧ Below w.heap.size w w' := by
 obtain ⟨k, h⟩ := P a0 a1 w0 w1
 refine (hornbooklaw14_GlyphNames.calls k a0 a1 true w hG h rfl).mono ?_
 rintro e w' ⟨rfl, hd⟩
 exact ⟨rfl, hd⟩
end Go.Proofs.YtdbadfcekomomaaDoor.M
end
section
namespace Go.Proofs.YtdbadfcekomomaaDoor.M
open Go Go.RowKit
variable {H : Type} {enc : TypeId × Value → H}
theorem returns_both {a : Assume} {C : Checked} {os : Os} {f : FuncId} {fn : Func} {s : ChangeSpec} {conds : List PathCond} {apart fresh handsOn again : Bool} {X : World → Array Value → Prop}
  (hX : ∀ (w w' : World) (args : Array Value), w.heap = w'.heap → X w args → X w' args)
  (own : ownKnob C.prog.godebug = none) (started : os.Started) (noInit : C.prog.inits.idxOf? f = none) (hfn : C.prog.funcs[f]? = some fn)
  (witness : ∃ (w : World) (tape : Tape) (i : Input), w.os = os ∧ (w.forCall tape i).Shaped C.prog ∧ i.vars = [] ∧ Input.okWide C.prog (w.forCall tape i) .any w.heap.size f i ∧
   ((s.pre enc C.prog fn conds apart (w.forCall tape i).memory i.args ∧ X (w.forCall tape i).memory i.args) ∧ sizedMet enc C.prog fn (OpenSpec.ofChange s) apart (w.forCall tape i).memory i.args) ∧ a.holds C.prog (lone (Frame.enter C.prog f i.args .normal) [] (w.forCall tape i)))
  (contract : ∀ (W : World) (base : Nat) (args : Array Value) (ds gs : List (DataW H)) (before : List MemPlace),
   (∀ (j : Nat) t v, fn.params[j]? = some t → args[j]? = some v → Value.okWide C.prog W .any base t v) →
   DataW.Whole enc C.prog fn.params.toList s.vars apart W args.toList ds gs before →
   conds.all (PathCond.test C.prog ⟨fn.params.toList, ds, s.plain.varTypes C.prog, gs⟩) = true →
   (DataW.weightsEach C.prog (fn.params.toList ++ s.plain.varTypes C.prog) (ds ++ gs)).all (· ≤ reachBytes) = true → X W args → W.ShapedOpen C.prog →
   Calls C.prog f args W fun e W' => ∃ v, e = .returned v ∧ s.post enc C.prog fn apart fresh handsOn again W args v W') :
  ReturnsInHanded a C os f .any (fun w args => (s.pre enc C.prog fn conds apart w args ∧ X w args) ∧ sizedMet enc C.prog fn (OpenSpec.ofChange s) apart w args) (s.post enc C.prog fn apart fresh handsOn again) := by
 refine returnsInHanded_of_calls own started noInit witness ?_
 intro w tape i _ hsh _ hok hpre hholds
 obtain ⟨_, _, _, fn', hfn', _, _, _, _, hval⟩ := hok
 have e : fn' = fn := Option.some.inj (hfn'.symm.trans hfn)
 subst e
 obtain ⟨⟨⟨ds, gs, before, hw, hc⟩, hx⟩, hz⟩ := hpre
 have hw' := DataW.Whole.of_heap (w' := w.forCall tape i) (by rfl) hw
 refine (contract (w.forCall tape i) w.heap.size i.args ds gs before hval hw' hc (hz.weights hw) (hX _ _ _ (by rfl) hx) hsh).mono fun e W' ⟨v, he, hp⟩ => ?_
 subst he
 exact ChangeSpec.post_blind hp
theorem gw_star : "*" ++ "errors.errorString" = "*errors.errorString" := by decide
theorem gw_row (u : TypeId) (h : Tryd.prog.typeName? 3 u = some "*errors.errorString") : u = 129 :=
 typeName_ptr_named (nm := "errors.errorString") (by rw [gw_star]; kernel_rfl) (by kernel_rfl) (by decide) u (by rw [gw_star]; exact h)
/-- Out of a row's 'laid', from the two sentinels on, and the world's shape. -/
theorem GW.of_mets {r1 r2 : List (String × DataW Unit)} {t1 t2 : List UInt8} {W : World}
  (h1 : laidMet Tryd.prog (("strconv.ErrRange", .iface "*errors.errorString" (.ptr (.agg [.lit (.string t1)]))) :: r1) W)
  (h2 : laidMet Tryd.prog (("strconv.ErrSyntax", .iface "*errors.errorString" (.ptr (.agg [.lit (.string t2)]))) :: r2) W)
  {r3 : List (String × DataW Unit)} (h3 : laidMet Tryd.prog (("strings.asciiSpace", Rows.laid_strings_asciiSpace) :: r3) W)
  {r4 : List (String × DataW Unit)} (h4 : laidMet Tryd.prog (("internal/strconv.uint64pow10", Rows.laid_internal_strconv_uint64pow10) :: r4) W)
  (hsh : W.ShapedOpen Tryd.prog) : GW W := by
 obtain ⟨a0, s0, hv0, -, -, -⟩ := laid_sentinel h1 (g := 4) (ti := 51) (by kernel_rfl) (by kernel_rfl) Tryd.underlying51 gw_row Tryd.underlying129 Tryd.underlying131 rfl rfl Tryd.underlying9 (by kernel_rfl) (by kernel_rfl)
 obtain ⟨a1, s1, hv1, -, -, -⟩ := laid_sentinel h2 (g := 3) (ti := 51) (by kernel_rfl) (by kernel_rfl) Tryd.underlying51 gw_row Tryd.underlying129 Tryd.underlying131 rfl rfl Tryd.underlying9 (by kernel_rfl) (by kernel_rfl)
 have c0 := World.var?_cell (P := Tryd.prog) (g := 4) (by kernel_rfl) hv0 0
 have c1 := World.var?_cell (P := Tryd.prog) (g := 3) (by kernel_rfl) hv1 0
 obtain ⟨m, hm⟩ := cell_of_shapedOpen_int (P := Tryd.prog) (g := 2) (t := 3) (zero := #[.int .i64 0]) hsh (of_decide_eq_true (by kernel_rfl)) (by kernel_rfl) rfl (by kernel_rfl) (by kernel_rfl) Tryd.underlying3
 have e3 : (Rows.laid_strings_asciiSpace : DataW Unit) = Lib.tabData .u8 Lib.asciiSpaceTab := by kernel_rfl
 rw [e3] at h3
 have hsp : Lib.TabIs Tryd.prog W "strings.asciiSpace" .u8 Lib.asciiSpaceTab := Lib.tabIs_of_head (g := 0) (by kernel_rfl) (by kernel_rfl) Tryd.underlying64 Tryd.underlying5 (by kernel_rfl) (by kernel_rfl) h3
 have e4 : (Rows.laid_internal_strconv_uint64pow10 : DataW Unit) = Lib.tabData .u64 Lib.pow10Tab := by kernel_rfl
 rw [e4] at h4
 have hpow : Lib.TabIs Tryd.prog W "internal/strconv.uint64pow10" .u64 Lib.pow10Tab := Lib.tabIs_of_head (g := 7) (by kernel_rfl) (by kernel_rfl) Tryd.underlying139 Tryd.underlying98 (by kernel_rfl) (by kernel_rfl) h4
 exact {
  range := ⟨a0, by simpa using c0⟩
  syn := ⟨a1, by simpa using c1⟩
  max := ⟨m, hm⟩
  space := hsp
  pow := hpow
 }
end Go.Proofs.YtdbadfcekomomaaDoor.M
end
section
namespace Go.Proofs.YtdbadfcekomomaaDoor.M
open Go.RowKit Go.Proofs.YtdbadfcekomomaaDoorW.PrintWords
set_option linter.unusedVariables false
def bodyOf : List (List UInt8) → List UInt8
 | [] => []
 | f :: fs => f ++ 32 :: bodyOf fs
def findF (p : List UInt8) : List (List UInt8) → Option (List UInt8)
 | [] => none
 | f :: fs => if p.isPrefixOf f = true then some (f.drop p.length) else findF p fs
theorem index_skip (c : UInt8) (p s : List UInt8) : ∀ f : List UInt8, (∀ b ∈ f, b ≠ c) → Lib.index (f ++ s) (c :: p) = if Lib.index s (c :: p) = -1 then -1 else Lib.index s (c :: p) + f.length
 | [], _ => by
  rw [List.nil_append, List.length_nil]
  split
  ·assumption
  ·omega
 | b :: f, h => by
  have hb : (c == b) = false := by
   rw [beq_eq_false_iff_ne]
   exact fun e => h b List.mem_cons_self e.symm
  have ih := index_skip c p s f (fun x hx => h x (List.mem_cons_of_mem _ hx))
  have hge := Lib.index_ge s (c :: p)
  rw [List.cons_append, Lib.index]
  have hp : (c :: p).isPrefixOf (b :: (f ++ s)) = false := by simp [List.isPrefixOf, hb]
  rw [hp, ih]
  by_cases hn : Lib.index s (c :: p) = -1
  ·simp [hn]
  ·rw [if_neg hn]
   have : (Lib.index s (c :: p) + (f.length : Int) == -1) = false := by rw [beq_eq_false_iff_ne]; omega
   simp only [Bool.false_eq_true, if_false, this, if_neg hn, List.length_cons]
   omega
theorem prefix_field (r : List UInt8) : ∀ (p f : List UInt8), (∀ b ∈ p, b ≠ 32) → p.isPrefixOf (f ++ 32 :: r) = p.isPrefixOf f
 | [], f, _ => by simp [List.isPrefixOf]
 | a :: p, [], h => by
  have : (a == 32) = false := by rw [beq_eq_false_iff_ne]; exact h a List.mem_cons_self
  simp [List.isPrefixOf, this]
 | a :: p, b :: f, h => by
  rw [List.cons_append, List.isPrefixOf, List.isPrefixOf, prefix_field r p f (fun x hx => h x (List.mem_cons_of_mem _ hx))]
theorem idx_fields (p : List UInt8) (hp : ∀ b ∈ p, b ≠ 32) (hne : p ≠ []) : ∀ fs : List (List UInt8), (∀ f ∈ fs, ∀ b ∈ f, b ≠ 32) →
  (findF p fs = none ∧ Lib.index (32 :: bodyOf fs) (32 :: p) = -1) ∨ (∃ h r, ∃ i : Nat, findF p fs = some h ∧ Lib.index (32 :: bodyOf fs) (32 :: p) = i ∧ (32 :: bodyOf fs).drop (i + (p.length + 1)) = h ++ 32 :: r ∧ ∃ f ∈ fs, ∃ q, f = q ++ h)
 | [], _ => by
  refine .inl ⟨rfl, ?_⟩
  cases p with
  | nil => exact absurd rfl hne
  | cons a p => rfl
 | f :: fs, hf => by
  have hpre := prefix_field (bodyOf fs) p f hp
  by_cases hm : p.isPrefixOf f = true
  ·refine .inr ⟨f.drop p.length, bodyOf fs, 0, by rw [findF, if_pos hm], ?_, ?_, f, List.mem_cons_self, f.take p.length, (List.take_append_drop _ _).symm⟩
   ·rw [bodyOf, Lib.index]
    have : (32 :: p).isPrefixOf (32 :: (f ++ 32 :: bodyOf fs)) = true := by rw [List.isPrefixOf, hpre, hm]; rfl
    rw [if_pos this]
    rfl
   ·have hl : p.length ≤ f.length := (List.isPrefixOf_iff_prefix.1 hm).length_le
    rw [Nat.zero_add, List.drop_succ_cons, bodyOf, List.drop_append_of_le_length hl]
  ·have hm' : p.isPrefixOf f = false := Bool.eq_false_iff.2 hm
   have hn : (32 :: p).isPrefixOf (32 :: (f ++ 32 :: bodyOf fs)) = false := by rw [List.isPrefixOf, hpre, hm']; rfl
   have hsk := index_skip 32 p (32 :: bodyOf fs) f (hf f List.mem_cons_self)
   rcases idx_fields p hp hne fs (fun g hg => hf g (List.mem_cons_of_mem _ hg)) with ⟨h1, h2⟩ | ⟨h, r, i, h1, h2, h3, g, hg, q, hq⟩
   ·refine .inl ⟨by rw [findF, if_neg hm, h1], ?_⟩
    rw [bodyOf, Lib.index, hn, hsk, h2]
    rfl
   ·refine .inr ⟨h, r, i + f.length + 1, by rw [findF, if_neg hm, h1], ?_, ?_, g, List.mem_cons_of_mem _ hg, q, hq⟩
    ·rw [bodyOf, Lib.index, hn, hsk, h2]
     have e1 : ((i : Int) + (f.length : Int) == -1) = false := by rw [beq_eq_false_iff_ne]; omega
     have e2 : ¬ ((i : Int) = -1) := by omega
     simp only [Bool.false_eq_true, if_false, if_neg e2, e1]
     omega
    ·rw [bodyOf, show i + f.length + 1 + (p.length + 1) = (f.length + (i + (p.length + 1))) + 1 by omega, List.drop_succ_cons, ← List.drop_drop]
     rw [List.drop_left]
     exact h3
theorem cut_blank (h r : List UInt8) (hb : ∀ b ∈ h, b ≠ 32) : (Lib.cut (h ++ 32 :: r) [32]).1 = h := by
 have hi := index_skip 32 [] (32 :: r) h hb
 have h0 : Lib.index (32 :: r) [32] = 0 := by rw [Lib.index, if_pos (by simp [List.isPrefixOf])]
 rw [h0, if_neg (by decide)] at hi
 unfold Lib.cut
 rw [hi, if_pos (by omega)]
 show (h ++ 32 :: r).take (0 + (h.length : Int)).toNat = h
 rw [show (0 + (h.length : Int)).toNat = h.length by omega, List.take_left]
theorem contains_no (q : List UInt8) (h : ∀ b ∈ q, b ≠ 32 ∧ b ≠ 61) : Lib.containsAny q [32, 61] = false := by
 have : ∀ l : List UInt8, (∀ b ∈ l, b ≠ 32 ∧ b ≠ 61) → Lib.indexAny l [32, 61] = -1 := by
  intro l
  induction l with
  | nil => intro _; rfl
  | cons b l ih =>
   intro hl
   have hb := hl b List.mem_cons_self
   have hc : ([32, 61] : List UInt8).contains b = false := by simp [hb.1, hb.2]
   rw [Lib.indexAny, hc, ih (fun x hx => hl x (List.mem_cons_of_mem _ hx))]
   rfl
 unfold Lib.containsAny
 rw [this q h]
 rfl
def rawF (F : List ByteArray) : List (List UInt8) := F.map fun f => f.data.toList
def nmF (f : ByteArray) : ByteArray := ⟨(Lib.cut f.data.toList [61]).1.toArray⟩
def hxF (f : ByteArray) : ByteArray := ⟨(Lib.cut f.data.toList [61]).2.1.toArray⟩
def valsF (f : ByteArray) : List Int := (glyph_values.f (hxF f)).getD []
def nameOk (n : ByteArray) : Bool := decide (n.size ≤ 300) && !n.data.toList.isEmpty && n.data.toList.all fun b => decide (b.toNat < 128) && b != 32 && b != 61
def okF (F : List ByteArray) (f : ByteArray) : Bool := decide (f.size < 1000) && (glyph_values.f (hxF f)).isSome && (f.data.toList.all fun b => b != 32) && nameOk (nmF f) && decide (findF ((nmF f).data.toList ++ [61]) (rawF F) = some (hxF f).data.toList)
def goodF (T : ByteArray) (F : List ByteArray) : Bool := decide (T.size < 1000000) && decide (F.length < 1000) && decide (T.data.toList = 32 :: bodyOf (rawF F)) && F.all (okF F)
structure Glyphs (T : ByteArray) (F : List ByteArray) : Prop where
 size : T.size < 1000000
 len : F.length < 1000
 body : T.data.toList = 32 :: bodyOf (rawF F)
 ok : ∀ f ∈ F, okF F f = true
theorem Glyphs.of {T : ByteArray} {F : List ByteArray} (h : goodF T F = true) : Glyphs T F := by
 simp only [goodF, Bool.and_eq_true, decide_eq_true_eq] at h
 exact ⟨h.1.1.1, h.1.1.2, h.1.2, fun f hf => List.all_eq_true.1 h.2 f hf⟩
structure OkF (F : List ByteArray) (f : ByteArray) : Prop where
 size : f.size < 1000
 vals : glyph_values.f (hxF f) = some (valsF f)
 noBlank : ∀ b ∈ f.data.toList, b ≠ 32
 name : nameOk (nmF f) = true
 found : findF ((nmF f).data.toList ++ [61]) (rawF F) = some (hxF f).data.toList
theorem OkF.of {F : List ByteArray} {f : ByteArray} (h : okF F f = true) : OkF F f := by
 simp only [okF, Bool.and_eq_true, decide_eq_true_eq] at h
 obtain ⟨⟨⟨⟨h1, h2⟩, h3⟩, h4⟩, h5⟩ := h
 refine ⟨h1, ?_, ?_, h4, h5⟩
 ·obtain ⟨v, hv⟩ := Option.isSome_iff_exists.1 h2
  unfold valsF
  rw [hv]; rfl
 ·intro b hb
  have := List.all_eq_true.1 h3 b hb
  simpa using this
theorem name_facts {n : ByteArray} (h : nameOk n = true) : n.size ≤ 300 ∧ n.toList ≠ [] ∧ allAscii n.data.toList = true ∧ (∀ b ∈ n.data.toList, b ≠ 32 ∧ b ≠ 61) := by
 simp only [nameOk, Bool.and_eq_true, decide_eq_true_eq] at h
 obtain ⟨⟨h1, h2⟩, h3⟩ := h
 have h4 : ∀ b ∈ n.data.toList, b.toNat < 128 ∧ b ≠ 32 ∧ b ≠ 61 := by
  intro b hb
  have := List.all_eq_true.1 h3 b hb
  simp only [Bool.and_eq_true, decide_eq_true_eq, bne_iff_ne] at this
  exact ⟨this.1.1, this.1.2, this.2⟩
 refine ⟨h1, ?_, ?_, fun b hb => (h4 b hb).2⟩
 ·rw [toList_data]
  intro e
  rw [e] at h2
  simp at h2
 ·unfold allAscii
  exact List.all_eq_true.2 (fun b hb => decide_eq_true (h4 b hb).1)
/-- Of a name that may be one: what the list says of it. -/
theorem uni_eq2 {T : ByteArray} {F : List ByteArray} (hG : Glyphs T F) {k : Nat} (hT : glyph_list.f k = some T) (a : ByteArray) (h1 : a.size ≤ 400) (h2 : a.toList ≠ []) (h4 : ∀ b ∈ a.data.toList, b ≠ 32 ∧ b ≠ 61) :
  glyph_Uni.f (k + 1) a = match findF (a.data.toList ++ [61]) (rawF F) with
   | none => some ([], false)
   | some h => (glyph_values.f ⟨h.toArray⟩).bind fun v => some (v, true) := by
 have hno : ∀ f ∈ rawF F, ∀ b ∈ f, b ≠ 32 := by
  intro f hf b hb
  obtain ⟨g, hg, rfl⟩ := List.mem_map.1 hf
  exact (OkF.of (hG.ok g hg)).noBlank b hb
 have hca : strings_ContainsAny.f a ⟨#[32, 61]⟩ = some false := by
  unfold strings_ContainsAny.f
  rw [if_pos ⟨by omega, by decide, .inr rfl, by decide⟩]
  exact congrArg some (contains_no _ h4)
 unfold glyph_Uni.f
 rw [if_neg h2, hca, Option.bind_some, glyph_Uni.j0, if_neg (by decide), hT, Option.bind_some]
 have hP : ((⟨#[32]⟩ : ByteArray) ++ a ++ ⟨#[61]⟩).data.toList = 32 :: (a.data.toList ++ [61]) := by simp
 have hs1 : ((⟨#[32]⟩ : ByteArray) ++ a).size = 1 + a.size := by rw [ByteArray.size_append]; rfl
 rw [if_pos (by omega), if_pos (by rw [hs1]; omega)]
 have hc : strings_Cut.f T ((⟨#[32]⟩ : ByteArray) ++ a ++ ⟨#[61]⟩) = some (⟨(Lib.cut (32 :: bodyOf (rawF F)) (32 :: (a.data.toList ++ [61]))).1.toArray⟩, ⟨(Lib.cut (32 :: bodyOf (rawF F)) (32 :: (a.data.toList ++ [61]))).2.1.toArray⟩, (Lib.cut (32 :: bodyOf (rawF F)) (32 :: (a.data.toList ++ [61]))).2.2) := by
  unfold strings_Cut.f
  rw [if_pos (by have := hG.size; omega), hP, hG.body]
 rw [hc, Option.bind_some]
 have hp : ∀ b ∈ a.data.toList ++ [61], b ≠ 32 := by
  intro b hb
  rcases List.mem_append.1 hb with hb | hb
  ·exact (h4 b hb).1
  ·rw [List.mem_singleton.1 hb]; decide
 rcases idx_fields (a.data.toList ++ [61]) hp (by simp) (rawF F) hno with ⟨f1, f2⟩ | ⟨h, r, i, f1, f2, f3, g, hg, q, hq⟩
 ·rw [f1]
  have : Lib.cut (32 :: bodyOf (rawF F)) (32 :: (a.data.toList ++ [61])) = (32 :: bodyOf (rawF F), [], false) := by
   unfold Lib.cut
   rw [f2, if_neg (by decide)]
  rw [this]
  rfl
 ·rw [f1]
  have : Lib.cut (32 :: bodyOf (rawF F)) (32 :: (a.data.toList ++ [61])) = ((32 :: bodyOf (rawF F)).take i, h ++ 32 :: r, true) := by
   unfold Lib.cut
   rw [f2, if_pos (by omega), Int.toNat_natCast, List.length_cons, f3]
  rw [this]
  have hsz : (⟨(h ++ 32 :: r).toArray⟩ : ByteArray).size < 4294967281 := by
   rw [ba_size, ← f3, List.length_drop]
   have h5 := hG.size
   have h6 : T.data.toList.length = T.size := rfl
   rw [hG.body] at h6
   omega
  have hh : ∀ b ∈ h, b ≠ 32 := fun b hb => hno g hg b (by rw [hq]; exact List.mem_append_right _ hb)
  have hc2 : strings_Cut.f ⟨(h ++ 32 :: r).toArray⟩ ⟨#[32]⟩ = some (⟨h.toArray⟩, ⟨(Lib.cut (h ++ 32 :: r) [32]).2.1.toArray⟩, (Lib.cut (h ++ 32 :: r) [32]).2.2) := by
   unfold strings_Cut.f
   rw [if_pos hsz, ba_list, cut_blank h r hh]
  show (if true = true then _ else _) = _
  rw [if_pos rfl, hc2, Option.bind_some]
/-- Of a name of the list. -/
theorem uni_eq {T : ByteArray} {F : List ByteArray} (hG : Glyphs T F) {k : Nat} (hT : glyph_list.f k = some T) (a : ByteArray) (ha : nameOk a = true) :
  glyph_Uni.f (k + 1) a = match findF (a.data.toList ++ [61]) (rawF F) with
   | none => some ([], false)
   | some h => (glyph_values.f ⟨h.toArray⟩).bind fun v => some (v, true) := by
 obtain ⟨h1, h2, -, h4⟩ := name_facts ha
 exact uni_eq2 hG hT a (by omega) h2 h4
theorem uni_in {T : ByteArray} {F : List ByteArray} (hG : Glyphs T F) {k : Nat} (hT : glyph_list.f k = some T) {f : ByteArray} (hf : f ∈ F) : glyph_Uni.f (k + 1) (nmF f) = some (valsF f, true) := by
 have ho := OkF.of (hG.ok f hf)
 rw [uni_eq hG hT (nmF f) ho.name, ho.found]
 show (glyph_values.f ⟨(hxF f).data.toList.toArray⟩).bind _ = _
 rw [← ba_eta, ho.vals]
 rfl
theorem cut_in {F : List ByteArray} {f : ByteArray} (ho : OkF F f) : strings_Cut.f f ⟨#[61]⟩ = some (nmF f, hxF f, (Lib.cut f.data.toList [61]).2.2) := by
 unfold strings_Cut.f
 rw [if_pos (by have := ho.size; omega)]
 rfl
def backIn (r : Int) : List ByteArray → ByteArray × Bool
 | [] => (⟨#[]⟩, false)
 | f :: fs => if valsF f = [r] then (nmF f, true) else backIn r fs
theorem one_rd {l : List Int} {r : Int} : (l.length : Int) = 1 → (rd l 0 = r ↔ l = [r]) := by
 intro h
 match l, h with
 | [x], _ => simp [rd]
theorem back_loopG {F : List ByteArray} (hF : ∀ f ∈ F, okF F f = true) (hl : F.length < 1000) (r : Int) (d : Nat) : ∀ (i k : Nat), F.length - i = d → i ≤ F.length → d < k →
  glyph_Back.l0 k r F F.length i = some (backIn r (F.drop i)) := by
 induction d with
 | zero =>
  intro i k hd hi hk
  obtain ⟨k, rfl⟩ : ∃ m, k = m + 1 := ⟨k - 1, by omega⟩
  rw [glyph_Back.l0, if_neg (by omega), List.drop_eq_nil_of_le (by omega), backIn]
 | succ d ih =>
  intro i k hd hi hk
  obtain ⟨k, rfl⟩ : ∃ m, k = m + 1 := ⟨k - 1, by omega⟩
  have hlt : i < F.length := by omega
  have hw : wrap64 ((i : Int) + 1) = ((i + 1 : Nat) : Int) := by rw [wrap_small (by omega) (by omega)]; omega
  have hr : rdOf ByteArray.empty F (i : Int) = F[i] := by
   unfold rdOf
   rw [Int.toNat_natCast, List.getD_eq_getElem?_getD, List.getElem?_eq_getElem hlt, Option.getD_some]
  have ho := OkF.of (hF _ (List.getElem_mem hlt))
  rw [glyph_Back.l0, if_pos (by omega), if_pos (by omega), if_pos (by omega), hw, hr, cut_in ho, Option.bind_some, ho.vals, Option.bind_some, List.drop_eq_getElem_cons hlt, backIn, ih (i + 1) k (by omega) (by omega) (by omega)]
  by_cases h1 : ((valsF F[i]).length : Int) = 1
  ·rw [if_pos h1, if_pos (by omega)]
   by_cases h2 : valsF F[i] = [r]
   ·rw [if_pos h2, if_pos ((one_rd h1).2 h2)]
   ·rw [if_neg h2, if_neg (fun e => h2 ((one_rd h1).1 e))]
  ·rw [if_neg h1, if_neg (fun e => h1 (by rw [e]; rfl))]
theorem names_loopG {F : List ByteArray} (hF : ∀ f ∈ F, okF F f = true) (hl : F.length < 1000) (d : Nat) : ∀ (i k : Nat) (acc : List ByteArray), F.length - i = d → i ≤ F.length → d < k → acc.length + d < 8796093022208 →
  glyph_Names.l0 k acc F F.length i = some (acc ++ (F.drop i).map nmF) := by
 induction d with
 | zero =>
  intro i k acc hd hi hk ha
  obtain ⟨k, rfl⟩ : ∃ m, k = m + 1 := ⟨k - 1, by omega⟩
  rw [glyph_Names.l0, if_neg (by omega), List.drop_eq_nil_of_le (by omega), List.map_nil, List.append_nil]
 | succ d ih =>
  intro i k acc hd hi hk ha
  obtain ⟨k, rfl⟩ : ∃ m, k = m + 1 := ⟨k - 1, by omega⟩
  have hlt : i < F.length := by omega
  have hw : wrap64 ((i : Int) + 1) = ((i + 1 : Nat) : Int) := by rw [wrap_small (by omega) (by omega)]; omega
  have hr : rdOf ByteArray.empty F (i : Int) = F[i] := by
   unfold rdOf
   rw [Int.toNat_natCast, List.getD_eq_getElem?_getD, List.getElem?_eq_getElem hlt, Option.getD_some]
  have ho := OkF.of (hF _ (List.getElem_mem hlt))
  rw [glyph_Names.l0, if_pos (by omega), if_pos (by omega), if_pos (by omega), hw, hr, cut_in ho, Option.bind_some, if_pos (by omega), ih (i + 1) k _ (by omega) (by omega) (by omega) (by rw [List.length_append, List.length_singleton]; omega), List.drop_eq_getElem_cons hlt, List.map_cons, List.append_assoc]
  rfl
theorem back_eq {T : ByteArray} {F : List ByteArray} (hG : Glyphs T F) {k : Nat} (hk : 1000 ≤ k) (hT : glyph_list.f k = some T) (hF : strings_Fields.f T = some F) (r : Int) : glyph_Back.f k r = some (backIn r F) := by
 unfold glyph_Back.f
 rw [hT, Option.bind_some, hF, Option.bind_some]
 have := back_loopG hG.ok hG.len r F.length 0 k (by omega) (by omega) (by have := hG.len; omega)
 exact this
theorem names_eq {T : ByteArray} {F : List ByteArray} (hG : Glyphs T F) {k : Nat} (hk : 1000 ≤ k) (hT : glyph_list.f k = some T) (hF : strings_Fields.f T = some F) : glyph_Names.f k = some (F.map nmF) := by
 unfold glyph_Names.f
 rw [hT, Option.bind_some, hF, Option.bind_some]
 have := names_loopG hG.ok hG.len F.length 0 k [] (by omega) (by omega) (by have := hG.len; omega) (by have := hG.len; simp; omega)
 exact this
def fieldsK (k : Nat) : Option (ByteArray × List ByteArray) := (glyph_list.f k).bind fun t => (strings_Fields.f t).bind fun F => some (t, F)
def goodK (k : Nat) : Bool := match fieldsK k with
 | some p => goodF p.1 p.2
 | none => false
set_option maxRecDepth 100000 in
theorem goodK_at : goodK 500 = true := by decide +kernel
theorem glyphs_are : ∃ T F, (∀ k, 500 ≤ k → glyph_list.f k = some T) ∧ strings_Fields.f T = some F ∧ Glyphs T F ∧ fieldsK 500 = some (T, F) := by
 have h := goodK_at
 unfold goodK at h
 split at h
 case h_2 => cases h
 rename_i p hp
 have hp' := hp
 unfold fieldsK at hp
 obtain ⟨T, hT, hp⟩ := Option.bind_eq_some_iff.1 hp
 obtain ⟨F, hF, hp⟩ := Option.bind_eq_some_iff.1 hp
 obtain rfl := Option.some.inj hp
 exact ⟨T, F, fun k hk => le_rounds (g := fun k => glyph_list.f k) (fun k => glyph_list.mono k) hT hk, hF, Glyphs.of h, hp'⟩
end Go.Proofs.YtdbadfcekomomaaDoor.M
end
section
namespace Go.Proofs.YtdbadfcekomomaaDoor.M
open Go.RowKit Go.Proofs.YtdbadfcekomomaaDoorW.PrintWords
set_option maxRecDepth 100000 in
theorem awake14_at : hornbooklaw14_awake.f 500 = some true := by decide +kernel
theorem awake14 {k : Nat} (hk : 500 ≤ k) : hornbooklaw14_awake.f k = some true := le_rounds (g := fun k => hornbooklaw14_awake.f k) (fun k => hornbooklaw14_awake.mono k) awake14_at hk
end Go.Proofs.YtdbadfcekomomaaDoor.M
end
section
namespace Go.Proofs.YtdbadfcekomomaaDoor.M
open Go.RowKit Go.Proofs.YtdbadfcekomomaaDoorW.PrintWords Go.Proofs.YtdbadfcekomomaaDoorW.PrintLast Go.Proofs.YtdbadfcekomomaaDoorW.PrintMore
attribute [local go_sem] max2_int min2_int max_two min_two max_three min_three max_four min_four
set_option linter.unusedVariables false
set_option linter.unusedSimpArgs false
def hornbookref14_list.f  : Option (ByteArray) := some (⟨#[115, 112, 97, 99, 101, 61, 48, 48, 50, 48, 32, 101, 120, 99, 108, 97, 109, 61, 48, 48, 50, 49, 32, 113, 117, 111, 116, 101, 100, 98, 108, 61, 48, 48, 50, 50, 32, 110, 117, 109, 98, 101, 114, 115, 105, 103, 110, 61, 48, 48, 50, 51, 32, 100, 111, 108, 108, 97, 114, 61, 48, 48, 50, 52, 32, 112, 101, 114, 99, 101, 110, 116, 61, 48, 48, 50, 53, 32, 97, 109, 112, 101, 114, 115, 97, 110, 100, 61, 48, 48, 50, 54, 32, 113, 117, 111, 116, 101, 115, 105, 110, 103, 108, 101, 61, 48, 48, 50, 55, 32, 112, 97, 114, 101, 110, 108, 101, 102, 116, 61, 48, 48, 50, 56, 32, 112, 97, 114, 101, 110, 114, 105, 103, 104, 116, 61, 48, 48, 50, 57, 32, 97, 115, 116, 101, 114, 105, 115, 107, 61, 48, 48, 50, 65, 32, 112, 108, 117, 115, 61, 48, 48, 50, 66, 32, 99, 111, 109, 109, 97, 61, 48, 48, 50, 67, 32, 104, 121, 112, 104, 101, 110, 61, 48, 48, 50, 68, 32, 112, 101, 114, 105, 111, 100, 61, 48, 48, 50, 69, 32, 115, 108, 97, 115, 104, 61, 48, 48, 50, 70, 32, 122, 101, 114, 111, 61, 48, 48, 51, 48, 32, 111, 110, 101, 61, 48, 48, 51, 49, 32, 116, 119, 111, 61, 48, 48, 51, 50, 32, 116, 104, 114, 101, 101, 61, 48, 48, 51, 51, 32, 102, 111, 117, 114, 61, 48, 48, 51, 52, 32, 102, 105, 118, 101, 61, 48, 48, 51, 53, 32, 115, 105, 120, 61, 48, 48, 51, 54, 32, 115, 101, 118, 101, 110, 61, 48, 48, 51, 55, 32, 101, 105, 103, 104, 116, 61, 48, 48, 51, 56, 32, 110, 105, 110, 101, 61, 48, 48, 51, 57, 32, 99, 111, 108, 111, 110, 61, 48, 48, 51, 65, 32, 115, 101, 109, 105, 99, 111, 108, 111, 110, 61, 48, 48, 51, 66, 32, 108, 101, 115, 115, 61, 48, 48, 51, 67, 32, 101, 113, 117, 97, 108, 61, 48, 48, 51, 68, 32, 103, 114, 101, 97, 116, 101, 114, 61, 48, 48, 51, 69, 32, 113, 117, 101, 115, 116, 105, 111, 110, 61, 48, 48, 51, 70, 32, 97, 116, 61, 48, 48, 52, 48, 32, 65, 61, 48, 48, 52, 49, 32, 66, 61, 48, 48, 52, 50, 32, 67, 61, 48, 48, 52, 51, 32, 68, 61, 48, 48, 52, 52, 32, 69, 61, 48, 48, 52, 53, 32, 70, 61, 48, 48, 52, 54, 32, 71, 61, 48, 48, 52, 55, 32, 72, 61, 48, 48, 52, 56, 32, 73, 61, 48, 48, 52, 57, 32, 74, 61, 48, 48, 52, 65, 32, 75, 61, 48, 48, 52, 66, 32, 76, 61, 48, 48, 52, 67, 32, 77, 61, 48, 48, 52, 68, 32, 78, 61, 48, 48, 52, 69, 32, 79, 61, 48, 48, 52, 70, 32, 80, 61, 48, 48, 53, 48, 32, 81, 61, 48, 48, 53, 49, 32, 82, 61, 48, 48, 53, 50, 32, 83, 61, 48, 48, 53, 51, 32, 84, 61, 48, 48, 53, 52, 32, 85, 61, 48, 48, 53, 53, 32, 86, 61, 48, 48, 53, 54, 32, 87, 61, 48, 48, 53, 55, 32, 88, 61, 48, 48, 53, 56, 32, 89, 61, 48, 48, 53, 57, 32, 90, 61, 48, 48, 53, 65, 32, 98, 114, 97, 99, 107, 101, 116, 108, 101, 102, 116, 61, 48, 48, 53, 66, 32, 98, 97, 99, 107, 115, 108, 97, 115, 104, 61, 48, 48, 53, 67, 32, 98, 114, 97, 99, 107, 101, 116, 114, 105, 103, 104, 116, 61, 48, 48, 53, 68, 32, 97, 115, 99, 105, 105, 99, 105, 114, 99, 117, 109, 61, 48, 48, 53, 69, 32, 117, 110, 100, 101, 114, 115, 99, 111, 114, 101, 61, 48, 48, 53, 70, 32, 103, 114, 97, 118, 101, 61, 48, 48, 54, 48, 32, 97, 61, 48, 48, 54, 49, 32, 98, 61, 48, 48, 54, 50, 32, 99, 61, 48, 48, 54, 51, 32, 100, 61, 48, 48, 54, 52, 32, 101, 61, 48, 48, 54, 53, 32, 102, 61, 48, 48, 54, 54, 32, 103, 61, 48, 48, 54, 55, 32, 104, 61, 48, 48, 54, 56, 32, 105, 61, 48, 48, 54, 57, 32, 106, 61, 48, 48, 54, 65, 32, 107, 61, 48, 48, 54, 66, 32, 108, 61, 48, 48, 54, 67, 32, 109, 61, 48, 48, 54, 68, 32, 110, 61, 48, 48, 54, 69, 32, 111, 61, 48, 48, 54, 70, 32, 112, 61, 48, 48, 55, 48, 32, 113, 61, 48, 48, 55, 49, 32, 114, 61, 48, 48, 55, 50, 32, 115, 61, 48, 48, 55, 51, 32, 116, 61, 48, 48, 55, 52, 32, 117, 61, 48, 48, 55, 53, 32, 118, 61, 48, 48, 55, 54, 32, 119, 61, 48, 48, 55, 55, 32, 120, 61, 48, 48, 55, 56, 32, 121, 61, 48, 48, 55, 57, 32, 122, 61, 48, 48, 55, 65, 32, 98, 114, 97, 99, 101, 108, 101, 102, 116, 61, 48, 48, 55, 66, 32, 98, 97, 114, 61, 48, 48, 55, 67, 32, 98, 114, 97, 99, 101, 114, 105, 103, 104, 116, 61, 48, 48, 55, 68, 32, 97, 115, 99, 105, 105, 116, 105, 108, 100, 101, 61, 48, 48, 55, 69, 32, 101, 120, 99, 108, 97, 109, 100, 111, 119, 110, 61, 48, 48, 65, 49, 32, 99, 101, 110, 116, 61, 48, 48, 65, 50, 32, 115, 116, 101, 114, 108, 105, 110, 103, 61, 48, 48, 65, 51, 32, 99, 117, 114, 114, 101, 110, 99, 121, 61, 48, 48, 65, 52, 32, 121, 101, 110, 61, 48, 48, 65, 53, 32, 98, 114, 111, 107, 101, 110, 98, 97, 114, 61, 48, 48, 65, 54, 32, 115, 101, 99, 116, 105, 111, 110, 61, 48, 48, 65, 55, 32, 100, 105, 101, 114, 101, 115, 105, 115, 61, 48, 48, 65, 56, 32, 99, 111, 112, 121, 114, 105, 103, 104, 116, 61, 48, 48, 65, 57, 32, 111, 114, 100, 102, 101, 109, 105, 110, 105, 110, 101, 61, 48, 48, 65, 65, 32, 103, 117, 105, 108, 108, 101, 109, 111, 116, 108, 101, 102, 116, 61, 48, 48, 65, 66, 32, 108, 111, 103, 105, 99, 97, 108, 110, 111, 116, 61, 48, 48, 65, 67, 32, 114, 101, 103, 105, 115, 116, 101, 114, 101, 100, 61, 48, 48, 65, 69, 32, 109, 97, 99, 114, 111, 110, 61, 48, 48, 65, 70, 32, 100, 101, 103, 114, 101, 101, 61, 48, 48, 66, 48, 32, 112, 108, 117, 115, 109, 105, 110, 117, 115, 61, 48, 48, 66, 49, 32, 116, 119, 111, 115, 117, 112, 101, 114, 105, 111, 114, 61, 48, 48, 66, 50, 32, 116, 104, 114, 101, 101, 115, 117, 112, 101, 114, 105, 111, 114, 61, 48, 48, 66, 51, 32, 97, 99, 117, 116, 101, 61, 48, 48, 66, 52, 32, 109, 117, 61, 48, 48, 66, 53, 32, 112, 97, 114, 97, 103, 114, 97, 112, 104, 61, 48, 48, 66, 54, 32, 112, 101, 114, 105, 111, 100, 99, 101, 110, 116, 101, 114, 101, 100, 61, 48, 48, 66, 55, 32, 99, 101, 100, 105, 108, 108, 97, 61, 48, 48, 66, 56, 32, 111, 110, 101, 115, 117, 112, 101, 114, 105, 111, 114, 61, 48, 48, 66, 57, 32, 111, 114, 100, 109, 97, 115, 99, 117, 108, 105, 110, 101, 61, 48, 48, 66, 65, 32, 103, 117, 105, 108, 108, 101, 109, 111, 116, 114, 105, 103, 104, 116, 61, 48, 48, 66, 66, 32, 111, 110, 101, 113, 117, 97, 114, 116, 101, 114, 61, 48, 48, 66, 67, 32, 111, 110, 101, 104, 97, 108, 102, 61, 48, 48, 66, 68, 32, 116, 104, 114, 101, 101, 113, 117, 97, 114, 116, 101, 114, 115, 61, 48, 48, 66, 69, 32, 113, 117, 101, 115, 116, 105, 111, 110, 100, 111, 119, 110, 61, 48, 48, 66, 70, 32, 65, 103, 114, 97, 118, 101, 61, 48, 48, 67, 48, 32, 65, 97, 99, 117, 116, 101, 61, 48, 48, 67, 49, 32, 65, 99, 105, 114, 99, 117, 109, 102, 108, 101, 120, 61, 48, 48, 67, 50, 32, 65, 116, 105, 108, 100, 101, 61, 48, 48, 67, 51, 32, 65, 100, 105, 101, 114, 101, 115, 105, 115, 61, 48, 48, 67, 52, 32, 65, 114, 105, 110, 103, 61, 48, 48, 67, 53, 32, 65, 69, 61, 48, 48, 67, 54, 32, 67, 99, 101, 100, 105, 108, 108, 97, 61, 48, 48, 67, 55, 32, 69, 103, 114, 97, 118, 101, 61, 48, 48, 67, 56, 32, 69, 97, 99, 117, 116, 101, 61, 48, 48, 67, 57, 32, 69, 99, 105, 114, 99, 117, 109, 102, 108, 101, 120, 61, 48, 48, 67, 65, 32, 69, 100, 105, 101, 114, 101, 115, 105, 115, 61, 48, 48, 67, 66, 32, 73, 103, 114, 97, 118, 101, 61, 48, 48, 67, 67, 32, 73, 97, 99, 117, 116, 101, 61, 48, 48, 67, 68, 32, 73, 99, 105, 114, 99, 117, 109, 102, 108, 101, 120, 61, 48, 48, 67, 69, 32, 73, 100, 105, 101, 114, 101, 115, 105, 115, 61, 48, 48, 67, 70, 32, 69, 116, 104, 61, 48, 48, 68, 48, 32, 78, 116, 105, 108, 100, 101, 61, 48, 48, 68, 49, 32, 79, 103, 114, 97, 118, 101, 61, 48, 48, 68, 50, 32, 79, 97, 99, 117, 116, 101, 61, 48, 48, 68, 51, 32, 79, 99, 105, 114, 99, 117, 109, 102, 108, 101, 120, 61, 48, 48, 68, 52, 32, 79, 116, 105, 108, 100, 101, 61, 48, 48, 68, 53, 32, 79, 100, 105, 101, 114, 101, 115, 105, 115, 61, 48, 48, 68, 54, 32, 109, 117, 108, 116, 105, 112, 108, 121, 61, 48, 48, 68, 55, 32, 79, 115, 108, 97, 115, 104, 61, 48, 48, 68, 56, 32, 85, 103, 114, 97, 118, 101, 61, 48, 48, 68, 57, 32, 85, 97, 99, 117, 116, 101, 61, 48, 48, 68, 65, 32, 85, 99, 105, 114, 99, 117, 109, 102, 108, 101, 120, 61, 48, 48, 68, 66, 32, 85, 100, 105, 101, 114, 101, 115, 105, 115, 61, 48, 48, 68, 67, 32, 89, 97, 99, 117, 116, 101, 61, 48, 48, 68, 68, 32, 84, 104, 111, 114, 110, 61, 48, 48, 68, 69, 32, 103, 101, 114, 109, 97, 110, 100, 98, 108, 115, 61, 48, 48, 68, 70, 32, 97, 103, 114, 97, 118, 101, 61, 48, 48, 69, 48, 32, 97, 97, 99, 117, 116, 101, 61, 48, 48, 69, 49, 32, 97, 99, 105, 114, 99, 117, 109, 102, 108, 101, 120, 61, 48, 48, 69, 50, 32, 97, 116, 105, 108, 100, 101, 61, 48, 48, 69, 51, 32, 97, 100, 105, 101, 114, 101, 115, 105, 115, 61, 48, 48, 69, 52, 32, 97, 114, 105, 110, 103, 61, 48, 48, 69, 53, 32, 97, 101, 61, 48, 48, 69, 54, 32, 99, 99, 101, 100, 105, 108, 108, 97, 61, 48, 48, 69, 55, 32, 101, 103, 114, 97, 118, 101, 61, 48, 48, 69, 56, 32, 101, 97, 99, 117, 116, 101, 61, 48, 48, 69, 57, 32, 101, 99, 105, 114, 99, 117, 109, 102, 108, 101, 120, 61, 48, 48, 69, 65, 32, 101, 100, 105, 101, 114, 101, 115, 105, 115, 61, 48, 48, 69, 66, 32, 105, 103, 114, 97, 118, 101, 61, 48, 48, 69, 67, 32, 105, 97, 99, 117, 116, 101, 61, 48, 48, 69, 68, 32, 105, 99, 105, 114, 99, 117, 109, 102, 108, 101, 120, 61, 48, 48, 69, 69, 32, 105, 100, 105, 101, 114, 101, 115, 105, 115, 61, 48, 48, 69, 70, 32, 101, 116, 104, 61, 48, 48, 70, 48, 32, 110, 116, 105, 108, 100, 101, 61, 48, 48, 70, 49, 32, 111, 103, 114, 97, 118, 101, 61, 48, 48, 70, 50, 32, 111, 97, 99, 117, 116, 101, 61, 48, 48, 70, 51, 32, 111, 99, 105, 114, 99, 117, 109, 102, 108, 101, 120, 61, 48, 48, 70, 52, 32, 111, 116, 105, 108, 100, 101, 61, 48, 48, 70, 53, 32, 111, 100, 105, 101, 114, 101, 115, 105, 115, 61, 48, 48, 70, 54, 32, 100, 105, 118, 105, 100, 101, 61, 48, 48, 70, 55, 32, 111, 115, 108, 97, 115, 104, 61, 48, 48, 70, 56, 32, 117, 103, 114, 97, 118, 101, 61, 48, 48, 70, 57, 32, 117, 97, 99, 117, 116, 101, 61, 48, 48, 70, 65, 32, 117, 99, 105, 114, 99, 117, 109, 102, 108, 101, 120, 61, 48, 48, 70, 66, 32, 117, 100, 105, 101, 114, 101, 115, 105, 115, 61, 48, 48, 70, 67, 32, 121, 97, 99, 117, 116, 101, 61, 48, 48, 70, 68, 32, 116, 104, 111, 114, 110, 61, 48, 48, 70, 69, 32, 121, 100, 105, 101, 114, 101, 115, 105, 115, 61, 48, 48, 70, 70, 32, 69, 117, 114, 111, 61, 50, 48, 65, 67, 32, 113, 117, 111, 116, 101, 115, 105, 110, 103, 108, 98, 97, 115, 101, 61, 50, 48, 49, 65, 32, 102, 108, 111, 114, 105, 110, 61, 48, 49, 57, 50, 32, 113, 117, 111, 116, 101, 100, 98, 108, 98, 97, 115, 101, 61, 50, 48, 49, 69, 32, 101, 108, 108, 105, 112, 115, 105, 115, 61, 50, 48, 50, 54, 32, 100, 97, 103, 103, 101, 114, 61, 50, 48, 50, 48, 32, 100, 97, 103, 103, 101, 114, 100, 98, 108, 61, 50, 48, 50, 49, 32, 99, 105, 114, 99, 117, 109, 102, 108, 101, 120, 61, 48, 50, 67, 54, 32, 112, 101, 114, 116, 104, 111, 117, 115, 97, 110, 100, 61, 50, 48, 51, 48, 32, 83, 99, 97, 114, 111, 110, 61, 48, 49, 54, 48, 32, 103, 117, 105, 108, 115, 105, 110, 103, 108, 108, 101, 102, 116, 61, 50, 48, 51, 57, 32, 79, 69, 61, 48, 49, 53, 50, 32, 90, 99, 97, 114, 111, 110, 61, 48, 49, 55, 68, 32, 113, 117, 111, 116, 101, 108, 101, 102, 116, 61, 50, 48, 49, 56, 32, 113, 117, 111, 116, 101, 114, 105, 103, 104, 116, 61, 50, 48, 49, 57, 32, 113, 117, 111, 116, 101, 100, 98, 108, 108, 101, 102, 116, 61, 50, 48, 49, 67, 32, 113, 117, 111, 116, 101, 100, 98, 108, 114, 105, 103, 104, 116, 61, 50, 48, 49, 68, 32, 98, 117, 108, 108, 101, 116, 61, 50, 48, 50, 50, 32, 101, 110, 100, 97, 115, 104, 61, 50, 48, 49, 51, 32, 101, 109, 100, 97, 115, 104, 61, 50, 48, 49, 52, 32, 116, 105, 108, 100, 101, 61, 48, 50, 68, 67, 32, 116, 114, 97, 100, 101, 109, 97, 114, 107, 61, 50, 49, 50, 50, 32, 115, 99, 97, 114, 111, 110, 61, 48, 49, 54, 49, 32, 103, 117, 105, 108, 115, 105, 110, 103, 108, 114, 105, 103, 104, 116, 61, 50, 48, 51, 65, 32, 111, 101, 61, 48, 49, 53, 51, 32, 122, 99, 97, 114, 111, 110, 61, 48, 49, 55, 69, 32, 89, 100, 105, 101, 114, 101, 115, 105, 115, 61, 48, 49, 55, 56, 32, 102, 105, 61, 70, 66, 48, 49, 32, 102, 108, 61, 70, 66, 48, 50, 32, 102, 114, 97, 99, 116, 105, 111, 110, 61, 50, 48, 52, 52, 32, 100, 111, 116, 108, 101, 115, 115, 105, 61, 48, 49, 51, 49, 32, 76, 115, 108, 97, 115, 104, 61, 48, 49, 52, 49, 32, 108, 115, 108, 97, 115, 104, 61, 48, 49, 52, 50, 32, 98, 114, 101, 118, 101, 61, 48, 50, 68, 56, 32, 99, 97, 114, 111, 110, 61, 48, 50, 67, 55, 32, 100, 111, 116, 97, 99, 99, 101, 110, 116, 61, 48, 50, 68, 57, 32, 104, 117, 110, 103, 97, 114, 117, 109, 108, 97, 117, 116, 61, 48, 50, 68, 68, 32, 111, 103, 111, 110, 101, 107, 61, 48, 50, 68, 66, 32, 114, 105, 110, 103, 61, 48, 50, 68, 65, 32, 109, 105, 110, 117, 115, 61, 50, 50, 49, 50, 32, 110, 111, 116, 101, 113, 117, 97, 108, 61, 50, 50, 54, 48, 32, 105, 110, 102, 105, 110, 105, 116, 121, 61, 50, 50, 49, 69, 32, 108, 101, 115, 115, 101, 113, 117, 97, 108, 61, 50, 50, 54, 52, 32, 103, 114, 101, 97, 116, 101, 114, 101, 113, 117, 97, 108, 61, 50, 50, 54, 53, 32, 112, 97, 114, 116, 105, 97, 108, 100, 105, 102, 102, 61, 50, 50, 48, 50, 32, 115, 117, 109, 109, 97, 116, 105, 111, 110, 61, 50, 50, 49, 49, 32, 112, 114, 111, 100, 117, 99, 116, 61, 50, 50, 48, 70, 32, 112, 105, 61, 48, 51, 67, 48, 32, 105, 110, 116, 101, 103, 114, 97, 108, 61, 50, 50, 50, 66, 32, 79, 109, 101, 103, 97, 61, 50, 49, 50, 54, 32, 114, 97, 100, 105, 99, 97, 108, 61, 50, 50, 49, 65, 32, 97, 112, 112, 114, 111, 120, 101, 113, 117, 97, 108, 61, 50, 50, 52, 56, 32, 68, 101, 108, 116, 97, 61, 50, 50, 48, 54, 32, 108, 111, 122, 101, 110, 103, 101, 61, 50, 53, 67, 65, 32, 97, 112, 112, 108, 101, 61, 70, 56, 70, 70, 32, 65, 108, 112, 104, 97, 61, 48, 51, 57, 49, 32, 66, 101, 116, 97, 61, 48, 51, 57, 50, 32, 71, 97, 109, 109, 97, 61, 48, 51, 57, 51, 32, 69, 112, 115, 105, 108, 111, 110, 61, 48, 51, 57, 53, 32, 90, 101, 116, 97, 61, 48, 51, 57, 54, 32, 69, 116, 97, 61, 48, 51, 57, 55, 32, 84, 104, 101, 116, 97, 61, 48, 51, 57, 56, 32, 73, 111, 116, 97, 61, 48, 51, 57, 57, 32, 75, 97, 112, 112, 97, 61, 48, 51, 57, 65, 32, 76, 97, 109, 98, 100, 97, 61, 48, 51, 57, 66, 32, 77, 117, 61, 48, 51, 57, 67, 32, 78, 117, 61, 48, 51, 57, 68, 32, 88, 105, 61, 48, 51, 57, 69, 32, 79, 109, 105, 99, 114, 111, 110, 61, 48, 51, 57, 70, 32, 80, 105, 61, 48, 51, 65, 48, 32, 82, 104, 111, 61, 48, 51, 65, 49, 32, 83, 105, 103, 109, 97, 61, 48, 51, 65, 51, 32, 84, 97, 117, 61, 48, 51, 65, 52, 32, 85, 112, 115, 105, 108, 111, 110, 61, 48, 51, 65, 53, 32, 80, 104, 105, 61, 48, 51, 65, 54, 32, 67, 104, 105, 61, 48, 51, 65, 55, 32, 80, 115, 105, 61, 48, 51, 65, 56, 32, 97, 108, 112, 104, 97, 61, 48, 51, 66, 49, 32, 98, 101, 116, 97, 61, 48, 51, 66, 50, 32, 103, 97, 109, 109, 97, 61, 48, 51, 66, 51, 32, 100, 101, 108, 116, 97, 61, 48, 51, 66, 52, 32, 101, 112, 115, 105, 108, 111, 110, 61, 48, 51, 66, 53, 32, 122, 101, 116, 97, 61, 48, 51, 66, 54, 32, 101, 116, 97, 61, 48, 51, 66, 55, 32, 116, 104, 101, 116, 97, 61, 48, 51, 66, 56, 32, 105, 111, 116, 97, 61, 48, 51, 66, 57, 32, 107, 97, 112, 112, 97, 61, 48, 51, 66, 65, 32, 108, 97, 109, 98, 100, 97, 61, 48, 51, 66, 66, 32, 110, 117, 61, 48, 51, 66, 68, 32, 120, 105, 61, 48, 51, 66, 69, 32, 111, 109, 105, 99, 114, 111, 110, 61, 48, 51, 66, 70, 32, 114, 104, 111, 61, 48, 51, 67, 49, 32, 115, 105, 103, 109, 97, 49, 61, 48, 51, 67, 50, 32, 115, 105, 103, 109, 97, 61, 48, 51, 67, 51, 32, 116, 97, 117, 61, 48, 51, 67, 52, 32, 117, 112, 115, 105, 108, 111, 110, 61, 48, 51, 67, 53, 32, 112, 104, 105, 61, 48, 51, 67, 54, 32, 99, 104, 105, 61, 48, 51, 67, 55, 32, 112, 115, 105, 61, 48, 51, 67, 56, 32, 111, 109, 101, 103, 97, 61, 48, 51, 67, 57, 32, 116, 104, 101, 116, 97, 49, 61, 48, 51, 68, 49, 32, 85, 112, 115, 105, 108, 111, 110, 49, 61, 48, 51, 68, 50, 32, 112, 104, 105, 49, 61, 48, 51, 68, 53, 32, 111, 109, 101, 103, 97, 49, 61, 48, 51, 68, 54, 32, 117, 110, 105, 118, 101, 114, 115, 97, 108, 61, 50, 50, 48, 48, 32, 101, 120, 105, 115, 116, 101, 110, 116, 105, 97, 108, 61, 50, 50, 48, 51, 32, 115, 117, 99, 104, 116, 104, 97, 116, 61, 50, 50, 48, 66, 32, 97, 115, 116, 101, 114, 105, 115, 107, 109, 97, 116, 104, 61, 50, 50, 49, 55, 32, 99, 111, 110, 103, 114, 117, 101, 110, 116, 61, 50, 50, 52, 53, 32, 116, 104, 101, 114, 101, 102, 111, 114, 101, 61, 50, 50, 51, 52, 32, 112, 101, 114, 112, 101, 110, 100, 105, 99, 117, 108, 97, 114, 61, 50, 50, 65, 53, 32, 115, 105, 109, 105, 108, 97, 114, 61, 50, 50, 51, 67, 32, 109, 105, 110, 117, 116, 101, 61, 50, 48, 51, 50, 32, 99, 108, 117, 98, 61, 50, 54, 54, 51, 32, 100, 105, 97, 109, 111, 110, 100, 61, 50, 54, 54, 54, 32, 104, 101, 97, 114, 116, 61, 50, 54, 54, 53, 32, 115, 112, 97, 100, 101, 61, 50, 54, 54, 48, 32, 97, 114, 114, 111, 119, 98, 111, 116, 104, 61, 50, 49, 57, 52, 32, 97, 114, 114, 111, 119, 108, 101, 102, 116, 61, 50, 49, 57, 48, 32, 97, 114, 114, 111, 119, 117, 112, 61, 50, 49, 57, 49, 32, 97, 114, 114, 111, 119, 114, 105, 103, 104, 116, 61, 50, 49, 57, 50, 32, 97, 114, 114, 111, 119, 100, 111, 119, 110, 61, 50, 49, 57, 51, 32, 115, 101, 99, 111, 110, 100, 61, 50, 48, 51, 51, 32, 112, 114, 111, 112, 111, 114, 116, 105, 111, 110, 97, 108, 61, 50, 50, 49, 68, 32, 101, 113, 117, 105, 118, 97, 108, 101, 110, 99, 101, 61, 50, 50, 54, 49, 32, 97, 108, 101, 112, 104, 61, 50, 49, 51, 53, 32, 73, 102, 114, 97, 107, 116, 117, 114, 61, 50, 49, 49, 49, 32, 82, 102, 114, 97, 107, 116, 117, 114, 61, 50, 49, 49, 67, 32, 119, 101, 105, 101, 114, 115, 116, 114, 97, 115, 115, 61, 50, 49, 49, 56, 32, 99, 105, 114, 99, 108, 101, 109, 117, 108, 116, 105, 112, 108, 121, 61, 50, 50, 57, 55, 32, 99, 105, 114, 99, 108, 101, 112, 108, 117, 115, 61, 50, 50, 57, 53, 32, 101, 109, 112, 116, 121, 115, 101, 116, 61, 50, 50, 48, 53, 32, 105, 110, 116, 101, 114, 115, 101, 99, 116, 105, 111, 110, 61, 50, 50, 50, 57, 32, 117, 110, 105, 111, 110, 61, 50, 50, 50, 65, 32, 112, 114, 111, 112, 101, 114, 115, 117, 112, 101, 114, 115, 101, 116, 61, 50, 50, 56, 51, 32, 114, 101, 102, 108, 101, 120, 115, 117, 112, 101, 114, 115, 101, 116, 61, 50, 50, 56, 55, 32, 110, 111, 116, 115, 117, 98, 115, 101, 116, 61, 50, 50, 56, 52, 32, 112, 114, 111, 112, 101, 114, 115, 117, 98, 115, 101, 116, 61, 50, 50, 56, 50, 32, 114, 101, 102, 108, 101, 120, 115, 117, 98, 115, 101, 116, 61, 50, 50, 56, 54, 32, 101, 108, 101, 109, 101, 110, 116, 61, 50, 50, 48, 56, 32, 110, 111, 116, 101, 108, 101, 109, 101, 110, 116, 61, 50, 50, 48, 57, 32, 97, 110, 103, 108, 101, 61, 50, 50, 50, 48, 32, 103, 114, 97, 100, 105, 101, 110, 116, 61, 50, 50, 48, 55, 32, 100, 111, 116, 109, 97, 116, 104, 61, 50, 50, 67, 53, 32, 108, 111, 103, 105, 99, 97, 108, 97, 110, 100, 61, 50, 50, 50, 55, 32, 108, 111, 103, 105, 99, 97, 108, 111, 114, 61, 50, 50, 50, 56, 32, 97, 114, 114, 111, 119, 100, 98, 108, 98, 111, 116, 104, 61, 50, 49, 68, 52, 32, 97, 114, 114, 111, 119, 100, 98, 108, 108, 101, 102, 116, 61, 50, 49, 68, 48, 32, 97, 114, 114, 111, 119, 100, 98, 108, 117, 112, 61, 50, 49, 68, 49, 32, 97, 114, 114, 111, 119, 100, 98, 108, 114, 105, 103, 104, 116, 61, 50, 49, 68, 50, 32, 97, 114, 114, 111, 119, 100, 98, 108, 100, 111, 119, 110, 61, 50, 49, 68, 51, 32, 97, 110, 103, 108, 101, 108, 101, 102, 116, 61, 50, 51, 50, 57, 32, 97, 110, 103, 108, 101, 114, 105, 103, 104, 116, 61, 50, 51, 50, 65, 32, 100, 97, 108, 101, 116, 104, 97, 116, 97, 102, 112, 97, 116, 97, 104, 61, 48, 53, 68, 51, 44, 48, 53, 66, 50, 32, 102, 102, 61, 70, 66, 48, 48, 32, 102, 102, 105, 61, 70, 66, 48, 51, 32, 102, 102, 108, 61, 70, 66, 48, 52, 32, 65, 109, 97, 99, 114, 111, 110, 61, 48, 49, 48, 48, 32, 97, 109, 97, 99, 114, 111, 110, 61, 48, 49, 48, 49, 32, 65, 98, 114, 101, 118, 101, 61, 48, 49, 48, 50, 32, 97, 98, 114, 101, 118, 101, 61, 48, 49, 48, 51, 32, 76, 99, 111, 109, 109, 97, 97, 99, 99, 101, 110, 116, 61, 48, 49, 51, 66, 32]⟩ : ByteArray)
def hornbookref01_Digit.l0 : Nat → Int → Int → Option (Int × Bool)
 | 0, _, _ => none
 | k + 1, x0, x4 => if x4 < 16 then (if 0 ≤ x4 then (if x0 = (wrap64 (bt (⟨#[48, 49, 50, 51, 52, 53, 54, 55, 56, 57, 65, 66, 67, 68, 69, 70]⟩ : ByteArray) x4)) then (some (x4, true)) else (if x4 > 9 then (if x0 = (wrap64 ((wrap64 (bt (⟨#[48, 49, 50, 51, 52, 53, 54, 55, 56, 57, 65, 66, 67, 68, 69, 70]⟩ : ByteArray) x4)) + 32)) then (some (x4, true)) else (hornbookref01_Digit.l0 k x0 (wrap64 (x4 + 1)))) else (hornbookref01_Digit.l0 k x0 (wrap64 (x4 + 1))))) else (none)) else (some (0, false))
def hornbookref01_Digit.f (k : Nat) (a0 : Int) : Option (Int × Bool) := hornbookref01_Digit.l0 k a0 0
theorem hornbookref01_Digit.mono_l : ∀ k, (∀ y0 y1, LeO (hornbookref01_Digit.l0 k y0 y1) (hornbookref01_Digit.l0 (k + 1) y0 y1))
 | 0 => fun _ _ r h => by simp [hornbookref01_Digit.l0] at h
 | k + 1 => by
  have ih0 := hornbookref01_Digit.mono_l k
  ·intro y0 y1
   unfold hornbookref01_Digit.l0
   repeat' first
   | (with_reducible exact ih0 _ _)
   | (with_reducible exact LeO.refl _)
   | (with_reducible exact LeO.none _)
   | (with_reducible refine LeO.ite ?_ ?_)
   | (with_reducible refine LeO.bind ?_ (fun _ => ?_))
   | exact ih0 _ _
   | exact LeO.none _
   | refine LeO.ite ?_ ?_
   | refine LeO.bind ?_ (fun _ => ?_)
theorem hornbookref01_Digit.mono : ∀ a0 k, LeO (hornbookref01_Digit.f k a0) (hornbookref01_Digit.f (k + 1) a0) := by
 intro a0 k
 have ih0 := hornbookref01_Digit.mono_l k
 unfold hornbookref01_Digit.f
 repeat' first
   | (with_reducible exact ih0 _ _)
   | (with_reducible exact LeO.refl _)
   | (with_reducible exact LeO.none _)
   | (with_reducible refine LeO.ite ?_ ?_)
   | (with_reducible refine LeO.bind ?_ (fun _ => ?_))
   | exact ih0 _ _
   | exact LeO.none _
   | refine LeO.ite ?_ ?_
   | refine LeO.bind ?_ (fun _ => ?_)
def hornbookref14_value.l0 : Nat → ByteArray → Int → Int → Option (Int)
 | 0, _, _, _ => none
 | k + 1, x0, x3, x4 => if x4 < (x0.size : Int) then (if 0 ≤ x4 then ((hornbookref01_Digit.f k (wrap64 (bt x0 x4))).bind fun bt178 => (hornbookref14_value.l0 k x0 (wrap64 ((wrap64 (x3 * 16)) + bt178.1)) (wrap64 (x4 + 1)))) else (none)) else (some x3)
def hornbookref14_value.f (k : Nat) (a0 : ByteArray) : Option (Int) := hornbookref14_value.l0 k a0 0 0
theorem hornbookref14_value.mono_l : ∀ k, (∀ y0 y1 y2, LeO (hornbookref14_value.l0 k y0 y1 y2) (hornbookref14_value.l0 (k + 1) y0 y1 y2))
 | 0 => fun _ _ _ r h => by simp [hornbookref14_value.l0] at h
 | k + 1 => by
  have ih0 := hornbookref14_value.mono_l k
  ·intro y0 y1 y2
   unfold hornbookref14_value.l0
   repeat' first
   | (with_reducible exact ih0 _ _ _)
   | (with_reducible exact hornbookref01_Digit.mono _ _)
   | (with_reducible exact LeO.refl _)
   | (with_reducible exact LeO.none _)
   | (with_reducible refine LeO.ite ?_ ?_)
   | (with_reducible refine LeO.bind ?_ (fun _ => ?_))
   | exact ih0 _ _ _
   | exact hornbookref01_Digit.mono _ _
   | exact LeO.none _
   | refine LeO.ite ?_ ?_
   | refine LeO.bind ?_ (fun _ => ?_)
theorem hornbookref14_value.mono : ∀ a0 k, LeO (hornbookref14_value.f k a0) (hornbookref14_value.f (k + 1) a0) := by
 intro a0 k
 have ih0 := hornbookref14_value.mono_l k
 unfold hornbookref14_value.f
 repeat' first
   | (with_reducible exact ih0 _ _ _)
   | (with_reducible exact hornbookref01_Digit.mono _ _)
   | (with_reducible exact LeO.refl _)
   | (with_reducible exact LeO.none _)
   | (with_reducible refine LeO.ite ?_ ?_)
   | (with_reducible refine LeO.bind ?_ (fun _ => ?_))
   | exact ih0 _ _ _
   | exact hornbookref01_Digit.mono _ _
   | exact LeO.none _
   | refine LeO.ite ?_ ?_
   | refine LeO.bind ?_ (fun _ => ?_)
def hornbookref14_values.l0 : Nat → ByteArray → List Int → Int → Int → Option (List Int)
 | 0, _, _, _, _ => none
 | k + 1, x0, x3, x4, x5 => if x5 ≤ (x0.size : Int) then (if x5 = (x0.size : Int) then (if 0 ≤ x4 then (if x4 ≤ x5 then ((hornbookref14_value.f k (x0.extract (x4 : Int).toNat (x5 : Int).toNat)).bind fun t180 => (if x3.length < 17592186044416 then (hornbookref14_values.l0 k x0 (x3 ++ [t180]) (wrap64 (x5 + 1)) (wrap64 (x5 + 1))) else (none))) else (none)) else (none)) else (if 0 ≤ x5 then (if x5 < (x0.size : Int) then (if (bt x0 x5) = 44 then (if 0 ≤ x4 then (if x4 ≤ x5 then ((hornbookref14_value.f k (x0.extract (x4 : Int).toNat (x5 : Int).toNat)).bind fun t184 => (if x3.length < 17592186044416 then (hornbookref14_values.l0 k x0 (x3 ++ [t184]) (wrap64 (x5 + 1)) (wrap64 (x5 + 1))) else (none))) else (none)) else (none)) else (hornbookref14_values.l0 k x0 x3 x4 (wrap64 (x5 + 1)))) else (none)) else (none))) else (some x3)
def hornbookref14_values.f (k : Nat) (a0 : ByteArray) : Option (List Int) := hornbookref14_values.l0 k a0 ([] : List Int) 0 0
theorem hornbookref14_values.mono_l : ∀ k, (∀ y0 y1 y2 y3, LeO (hornbookref14_values.l0 k y0 y1 y2 y3) (hornbookref14_values.l0 (k + 1) y0 y1 y2 y3))
 | 0 => fun _ _ _ _ r h => by simp [hornbookref14_values.l0] at h
 | k + 1 => by
  have ih0 := hornbookref14_values.mono_l k
  ·intro y0 y1 y2 y3
   unfold hornbookref14_values.l0
   repeat' first
   | (with_reducible exact ih0 _ _ _ _)
   | (with_reducible exact hornbookref14_value.mono _ _)
   | (with_reducible exact LeO.refl _)
   | (with_reducible exact LeO.none _)
   | (with_reducible refine LeO.ite ?_ ?_)
   | (with_reducible refine LeO.bind ?_ (fun _ => ?_))
   | exact ih0 _ _ _ _
   | exact hornbookref14_value.mono _ _
   | exact LeO.none _
   | refine LeO.ite ?_ ?_
   | refine LeO.bind ?_ (fun _ => ?_)
theorem hornbookref14_values.mono : ∀ a0 k, LeO (hornbookref14_values.f k a0) (hornbookref14_values.f (k + 1) a0) := by
 intro a0 k
 have ih0 := hornbookref14_values.mono_l k
 unfold hornbookref14_values.f
 repeat' first
   | (with_reducible exact ih0 _ _ _ _)
   | (with_reducible exact hornbookref14_value.mono _ _)
   | (with_reducible exact LeO.refl _)
   | (with_reducible exact LeO.none _)
   | (with_reducible refine LeO.ite ?_ ?_)
   | (with_reducible refine LeO.bind ?_ (fun _ => ?_))
   | exact ih0 _ _ _ _
   | exact hornbookref14_value.mono _ _
   | exact LeO.none _
   | refine LeO.ite ?_ ?_
   | refine LeO.bind ?_ (fun _ => ?_)




end Go.Proofs.YtdbadfcekomomaaDoor.M
end
section
/- Laid by this session's program hbprint.py out of the translation: the function hornbook/hornbookref14.Uni and its contract. -/
namespace Go.Proofs.YtdbadfcekomomaaDoor.M
open Go.RowKit Go.Proofs.YtdbadfcekomomaaDoorW.PrintWords Go.Proofs.YtdbadfcekomomaaDoorW.PrintLast Go.Proofs.YtdbadfcekomomaaDoorW.PrintMore
attribute [local go_sem] max2_int min2_int max_two min_two max_three min_three max_four min_four
set_option linter.unusedVariables false
set_option linter.unusedSimpArgs false
mutual
def hornbookref14_Uni.l0 : Nat → ByteArray → ByteArray → Int → Int → Int → Option (List Int × Bool)
 | 0, _, _, _, _, _ => none
 | k + 1, x0, x4, x5, x6, x7 => if x7 < (x4.size : Int) then (if 0 ≤ x7 then (if (bt x4 x7) = 61 then (hornbookref14_Uni.j1 k x0 x4 x5 x7 x7) else (hornbookref14_Uni.j1 k x0 x4 x5 x6 x7)) else (none)) else (some (([] : List Int), false))
def hornbookref14_Uni.j1 : Nat → ByteArray → ByteArray → Int → Int → Int → Option (List Int × Bool)
 | 0, _, _, _, _, _ => none
 | k + 1, x0, x4, x5, x6, x7 => if 0 ≤ x7 then (if x7 < (x4.size : Int) then (if (bt x4 x7) = 32 then (if 0 ≤ x5 then (if x5 ≤ x6 then (if x6 ≤ (x4.size : Int) then (if (x4.extract (x5 : Int).toNat (x6 : Int).toNat).toList = x0.toList then (if 0 ≤ (wrap64 (x6 + 1)) then (if (wrap64 (x6 + 1)) ≤ x7 then (if x7 ≤ (x4.size : Int) then ((hornbookref14_values.f k (x4.extract ((wrap64 (x6 + 1)) : Int).toNat (x7 : Int).toNat)).bind fun t189 => (some (t189, true))) else (none)) else (none)) else (none)) else (hornbookref14_Uni.l0 k x0 x4 (wrap64 (x7 + 1)) x6 (wrap64 (x7 + 1)))) else (none)) else (none)) else (none)) else (hornbookref14_Uni.l0 k x0 x4 x5 x6 (wrap64 (x7 + 1)))) else (none)) else (none)
end
def hornbookref14_Uni.f (k : Nat) (a0 : ByteArray) : Option (List Int × Bool) := (hornbookref14_list.f).bind fun t188 => (hornbookref14_Uni.l0 k a0 t188 0 0 0)
end Go.Proofs.YtdbadfcekomomaaDoor.M
end
section
namespace Go.Proofs.YtdbadfcekomomaaDoor.M
open Go.RowKit Go.Proofs.YtdbadfcekomomaaDoorW.PrintWords Go.Proofs.YtdbadfcekomomaaDoorW.PrintLast Go.Proofs.YtdbadfcekomomaaDoorW.PrintMore
attribute [local go_sem] max2_int min2_int max_two min_two max_three min_three max_four min_four
set_option linter.unusedVariables false
set_option linter.unusedSimpArgs false
end Go.Proofs.YtdbadfcekomomaaDoor.M
end
section
namespace Go.Proofs.YtdbadfcekomomaaDoor.M
open Go.RowKit Go.Proofs.YtdbadfcekomomaaDoorW.PrintWords
set_option linter.unusedVariables false
theorem mid_size {T : ByteArray} {p g s : List UInt8} (h : T.data.toList = p ++ (g ++ s)) : T.size = p.length + (g.length + s.length) := by rw [size_list, h, List.length_append, List.length_append]
theorem bt_midG {T : ByteArray} {p s : List UInt8} {c : UInt8} (h : T.data.toList = p ++ c :: s) {i : Nat} (hi : i = p.length) : bt T (i : Int) = (c.toNat : Int) := by
 have hs : i < T.size := by rw [size_list, h, List.length_append, List.length_cons]; omega
 rw [bt_get T i hs]
 congr 2
 subst hi
 simp [h]
theorem ext_midG {T : ByteArray} {p g s : List UInt8} (h : T.data.toList = p ++ (g ++ s)) {i j : Nat} (hi : i = p.length) (hj : j = p.length + g.length) : T.extract i j = ⟨g.toArray⟩ := by
 rw [ext_mid, h, hi, hj, List.drop_left, show p.length + g.length - p.length = g.length by omega, List.take_left]
theorem wrap_next (i : Nat) (hi : i < 1000000000) : wrap64 ((i : Int) + 1) = ((i + 1 : Nat) : Int) := by rw [wrap_small (by omega) (by omega)]; omega
structure FieldOk (f : ByteArray) : Prop where
 text : f.data.toList = (nmF f).data.toList ++ 61 :: (hxF f).data.toList
 nm : ∀ b ∈ (nmF f).data.toList, b ≠ 32 ∧ b ≠ 61
 hx : ∀ b ∈ (hxF f).data.toList, b ≠ 32 ∧ b ≠ 61
 vals : ∀ k, 300 ≤ k → hornbookref14_values.f k (hxF f) = some (valsF f)
 len : (valsF f).length < 100
 ne : (nmF f).toList ≠ []
def fieldOk (f : ByteArray) : Bool := decide (f.data.toList = (nmF f).data.toList ++ 61 :: (hxF f).data.toList) && ((nmF f).data.toList.all fun b => b != 32 && b != 61) && ((hxF f).data.toList.all fun b => b != 32 && b != 61) && decide (hornbookref14_values.f 300 (hxF f) = some (valsF f)) && decide ((valsF f).length < 100) && !(nmF f).data.toList.isEmpty
theorem FieldOk.of {f : ByteArray} (h : fieldOk f = true) : FieldOk f := by
 simp only [fieldOk, Bool.and_eq_true, decide_eq_true_eq] at h
 obtain ⟨⟨⟨⟨⟨h1, h2⟩, h3⟩, h4⟩, h5⟩, h6⟩ := h
 refine ⟨h1, fun b hb => ?_, fun b hb => ?_, fun k hk => le_rounds (g := fun k => hornbookref14_values.f k (hxF f)) (fun k => hornbookref14_values.mono _ k) h4 hk, h5, fun e => ?_⟩
 ·have := List.all_eq_true.1 h2 b hb
  simpa using this
 ·have := List.all_eq_true.1 h3 b hb
  simpa using this
 ·rw [toList_data] at e
  rw [e] at h6
  cases h6
theorem body_cons {f : ByteArray} {fs : List ByteArray} (ho : FieldOk f) : bodyOf (rawF (f :: fs)) = (nmF f).data.toList ++ (61 :: ((hxF f).data.toList ++ 32 :: bodyOf (rawF fs))) := by
 show f.data.toList ++ 32 :: bodyOf (rawF fs) = _
 rw [ho.text, List.append_assoc, List.cons_append]
theorem ne_eq {b : UInt8} (h : b ≠ 32 ∧ b ≠ 61) : ¬ ((b.toNat : Int) = 61) := fun e => h.2 (UInt8.toNat.inj (by show b.toNat = 61; omega))
theorem ne_bl {b : UInt8} (h : b ≠ 32 ∧ b ≠ 61) : ¬ ((b.toNat : Int) = 32) := fun e => h.1 (UInt8.toNat.inj (by show b.toNat = 32; omega))
theorem uni_skip (a T : ByteArray) (hT : T.size < 1000000) : ∀ (g p s : List UInt8) (from_ eq : Int) (i k : Nat), T.data.toList = p ++ (g ++ s) → i = p.length → (∀ b ∈ g, b ≠ 32 ∧ b ≠ 61) →
  hornbookref14_Uni.l0 (k + 2 * g.length) a T from_ eq i = hornbookref14_Uni.l0 k a T from_ eq ((i + g.length : Nat) : Int)
 | [], p, s, from_, eq, i, k, h, hi, hg => by rfl
 | c :: g, p, s, from_, eq, i, k, h, hi, hg => by
  have hz := mid_size h
  rw [List.length_cons] at hz
  have hb := bt_midG (s := g ++ s) h hi
  have hc := hg c List.mem_cons_self
  have ih := uni_skip a T hT g (p ++ [c]) s from_ eq (i + 1) k (by rw [h]; simp) (by rw [List.length_append, ← hi]; rfl) (fun x hx => hg x (List.mem_cons_of_mem _ hx))
  rw [List.length_cons, show k + 2 * (g.length + 1) = k + 2 * g.length + 1 + 1 by omega, hornbookref14_Uni.l0, if_pos (by omega), if_pos (by omega), hb, if_neg (ne_eq hc), hornbookref14_Uni.j1, if_pos (by omega), if_pos (by omega), hb, if_neg (ne_bl hc), wrap_next i (by omega), ih, show i + 1 + g.length = i + (g.length + 1) by omega]
theorem uni_field (a T : ByteArray) (hT : T.size < 1000000) {f : ByteArray} {fs : List ByteArray} (ho : FieldOk f) (p : List UInt8) (eq : Int) (i k : Nat) (h : T.data.toList = p ++ bodyOf (rawF (f :: fs))) (hi : i = p.length) (hk : 300 ≤ k) :
  hornbookref14_Uni.l0 (k + 2 * (f.size + 1)) a T i eq i = if (nmF f).toList = a.toList then some (valsF f, true) else hornbookref14_Uni.l0 k a T ((i + (f.size + 1) : Nat) : Int) ((i + (nmF f).size : Nat) : Int) ((i + (f.size + 1) : Nat) : Int) := by
 have hfs : f.size = (nmF f).size + (1 + (hxF f).size) := by rw [size_list, ho.text, List.length_append, List.length_cons, ← size_list, ← size_list]; omega
 rw [body_cons ho] at h
 have hz := mid_size h
 rw [List.length_cons, List.length_append, List.length_cons, ← size_list, ← size_list] at hz
 have h1 : T.data.toList = (p ++ (nmF f).data.toList) ++ 61 :: ((hxF f).data.toList ++ 32 :: bodyOf (rawF fs)) := by rw [h, List.append_assoc]
 have h2 : T.data.toList = (p ++ (nmF f).data.toList ++ [61]) ++ ((hxF f).data.toList ++ 32 :: bodyOf (rawF fs)) := by rw [h1]; simp
 have h3 : T.data.toList = (p ++ (nmF f).data.toList ++ [61] ++ (hxF f).data.toList) ++ 32 :: bodyOf (rawF fs) := by rw [h2]; simp
 have n1 : (p ++ (nmF f).data.toList).length = i + (nmF f).size := by rw [List.length_append, hi]; rfl
 have n2 : (p ++ (nmF f).data.toList ++ [61]).length = i + (nmF f).size + 1 := by rw [List.length_append, n1]; rfl
 have n3 : (p ++ (nmF f).data.toList ++ [61] ++ (hxF f).data.toList).length = i + (nmF f).size + 1 + (hxF f).size := by rw [List.length_append, n2]; rfl
 have b1 : bt T ((i + (nmF f).size : Nat) : Int) = 61 := bt_midG h1 n1.symm
 have b3 : bt T ((i + (nmF f).size + 1 + (hxF f).size : Nat) : Int) = 32 := bt_midG h3 n3.symm
 have e1 : T.extract i (i + (nmF f).size) = nmF f := by rw [ext_midG h hi (congrArg (· + (nmF f).size) hi)]
 have e2 : T.extract (i + (nmF f).size + 1) (i + (nmF f).size + 1 + (hxF f).size) = hxF f := by rw [ext_midG h2 n2.symm (congrArg (· + (hxF f).size) n2.symm)]
 have s1' := uni_skip a T hT (nmF f).data.toList p _ i eq i (k + 2 + 2 * (hxF f).size + 2) h hi ho.nm
 have s2 := uni_skip a T hT (hxF f).data.toList _ _ i ((i + (nmF f).size : Nat) : Int) (i + (nmF f).size + 1) (k + 2) h2 n2.symm ho.hx
 rw [← size_list] at s1' s2
 rw [show k + 2 * (f.size + 1) = k + 2 + 2 * (hxF f).size + 2 + 2 * (nmF f).size by omega, s1']
 rw [hornbookref14_Uni.l0, if_pos (by omega), if_pos (by omega), b1, if_pos rfl, hornbookref14_Uni.j1, if_pos (by omega), if_pos (by omega), b1, if_neg (by decide), wrap_next _ (by omega), s2]
 rw [hornbookref14_Uni.l0, if_pos (by omega), if_pos (by omega), b3, if_neg (by decide), hornbookref14_Uni.j1, if_pos (by omega), if_pos (by omega), b3, if_pos rfl, if_pos (by omega), if_pos (by omega), if_pos (by omega),
  Int.toNat_natCast, Int.toNat_natCast, e1]
 by_cases hn : (nmF f).toList = a.toList
 ·rw [if_pos hn, if_pos hn, wrap_next (i + (nmF f).size) (by omega), if_pos (by omega), if_pos (by omega), if_pos (by omega), Int.toNat_natCast, Int.toNat_natCast, e2, ho.vals k hk, Option.bind_some]
 ·rw [if_neg hn, if_neg hn, wrap_next _ (by omega), show i + (nmF f).size + 1 + (hxF f).size + 1 = i + (f.size + 1) by omega]
def findN (a : List UInt8) : List ByteArray → Option ByteArray
 | [] => none
 | f :: fs => if (nmF f).toList = a then some f else findN a fs
theorem uni_fields (a T : ByteArray) (hT : T.size < 1000000) : ∀ (fs : List ByteArray) (p : List UInt8) (eq : Int) (i k : Nat), (∀ f ∈ fs, FieldOk f) → T.data.toList = p ++ bodyOf (rawF fs) → i = p.length → 301 + 2 * (bodyOf (rawF fs)).length ≤ k →
  hornbookref14_Uni.l0 k a T i eq i = match findN a.toList fs with
   | some f => some (valsF f, true)
   | none => some ([], false)
 | [], p, eq, i, k, hf, h, hi, hk => by
  obtain ⟨k, rfl⟩ : ∃ m, k = m + 1 := ⟨k - 1, by omega⟩
  have hz : T.size = p.length := by rw [size_list, h]; simp [rawF, bodyOf]
  rw [hornbookref14_Uni.l0, if_neg (by omega)]
  rfl
 | f :: fs, p, eq, i, k, hf, h, hi, hk => by
  have ho := hf f List.mem_cons_self
  have hlen : (bodyOf (rawF (f :: fs))).length = f.size + 1 + (bodyOf (rawF fs)).length := by
   show (f.data.toList ++ 32 :: bodyOf (rawF fs)).length = _
   rw [List.length_append, List.length_cons, ← size_list]; omega
  obtain ⟨k, rfl⟩ : ∃ m, k = m + 2 * (f.size + 1) := ⟨k - 2 * (f.size + 1), by omega⟩
  rw [uni_field a T hT ho p eq i k h hi (by omega), findN]
  by_cases hn : (nmF f).toList = a.toList
  ·rw [if_pos hn, if_pos hn]
  ·rw [if_neg hn, if_neg hn]
   have hstep := uni_fields a T hT fs (p ++ f.data.toList ++ [32]) ((i + (nmF f).size : Nat) : Int) (i + (f.size + 1)) k (fun x hx => hf x (List.mem_cons_of_mem _ hx)) (by rw [h]; show p ++ (f.data.toList ++ 32 :: bodyOf (rawF fs)) = _; simp) (by rw [List.length_append, List.length_append, hi, ← size_list]; rfl) (by omega)
   exact hstep
theorem pre_name : ∀ (a n h : List UInt8), (∀ b ∈ a, b ≠ 61) → (∀ b ∈ n, b ≠ 61) → ((a ++ [61]).isPrefixOf (n ++ 61 :: h) = true ↔ n = a)
 | [], [], h, _, _ => by simp [List.isPrefixOf]
 | [], c :: n, h, _, hn => by
  have : ¬ (61 = c) := fun e => hn c List.mem_cons_self e.symm
  simp [List.isPrefixOf, this]
 | c :: a, [], h, ha, _ => by
  have : ¬ (c = 61) := ha c List.mem_cons_self
  simp [List.isPrefixOf, this]
 | c :: a, e :: n, h, ha, hn => by
  have ih := pre_name a n h (fun x hx => ha x (List.mem_cons_of_mem _ hx)) (fun x hx => hn x (List.mem_cons_of_mem _ hx))
  rw [List.cons_append, List.cons_append, List.isPrefixOf, Bool.and_eq_true, ih, beq_iff_eq, List.cons_eq_cons]
  exact ⟨fun ⟨x, y⟩ => ⟨x.symm, y⟩, fun ⟨x, y⟩ => ⟨x.symm, y⟩⟩
theorem find_eq (a : ByteArray) (ha : ∀ b ∈ a.data.toList, b ≠ 32 ∧ b ≠ 61) : ∀ fs : List ByteArray, (∀ f ∈ fs, FieldOk f) →
  findF (a.data.toList ++ [61]) (rawF fs) = (findN a.toList fs).map fun f => (hxF f).data.toList
 | [], _ => rfl
 | f :: fs, hf => by
  have ho := hf f List.mem_cons_self
  have ih := find_eq a ha fs (fun x hx => hf x (List.mem_cons_of_mem _ hx))
  have hp := pre_name a.data.toList (nmF f).data.toList (hxF f).data.toList (fun b hb => (ha b hb).2) (fun b hb => (ho.nm b hb).2)
  show (if (a.data.toList ++ [61]).isPrefixOf f.data.toList = true then some (f.data.toList.drop (a.data.toList ++ [61]).length) else findF _ (rawF fs)) = _
  rw [ho.text, findN]
  by_cases hn : (nmF f).data.toList = a.data.toList
  ·rw [if_pos (hp.2 hn), if_pos (by rw [toList_data, toList_data]; exact hn), ← hn, show (nmF f).data.toList ++ 61 :: (hxF f).data.toList = ((nmF f).data.toList ++ [61]) ++ (hxF f).data.toList by simp, List.drop_left]
   rfl
  ·rw [if_neg (fun e => hn (hp.1 e)), if_neg (by rw [toList_data, toList_data]; exact hn), ih]
theorem find_none (a : List UInt8) : ∀ fs : List ByteArray, (∀ f ∈ fs, (nmF f).toList ≠ a) → findN a fs = none
 | [], _ => rfl
 | f :: fs, h => by rw [findN, if_neg (h f List.mem_cons_self), find_none a fs (fun x hx => h x (List.mem_cons_of_mem _ hx))]
theorem find_mem (a : List UInt8) : ∀ (fs : List ByteArray) (f : ByteArray), findN a fs = some f → f ∈ fs
 | [], f, h => by cases h
 | g :: fs, f, h => by
  rw [findN] at h
  split at h
  ·cases h; exact List.mem_cons_self
  ·exact List.mem_cons_of_mem _ (find_mem a fs f h)
theorem contains_yes (q : List UInt8) (h : ¬ ∀ b ∈ q, b ≠ 32 ∧ b ≠ 61) : Lib.containsAny q [32, 61] = true := by
 have : ∀ l : List UInt8, Lib.indexAny l [32, 61] = -1 → ∀ b ∈ l, b ≠ 32 ∧ b ≠ 61 := by
  intro l
  induction l with
  | nil => intro _ b hb; cases hb
  | cons c l ih =>
   intro hl
   rw [Lib.indexAny] at hl
   by_cases hc : ([32, 61] : List UInt8).contains c = true
   ·rw [if_pos hc] at hl; cases hl
   ·rw [if_neg hc] at hl
    have hge := Lib.indexAny_ge [32, 61] l
    by_cases hn : Lib.indexAny l [32, 61] = -1
    ·intro b hb
     rcases List.mem_cons.1 hb with rfl | hb
     ·simpa using hc
     ·exact ih hn b hb
    ·exfalso
     have : (Lib.indexAny l [32, 61] == -1) = false := by rw [beq_eq_false_iff_ne]; exact hn
     simp only [this, Bool.false_eq_true, if_false] at hl
     omega
 unfold Lib.containsAny
 by_cases hn : Lib.indexAny q [32, 61] = -1
 ·exact absurd (this q hn) h
 ·exact decide_eq_true (by have := Lib.indexAny_ge [32, 61] q; omega)
def refK : Bool := match hornbookref14_list.f, fieldsK 500 with
 | some R, some p => decide (R.data.toList = bodyOf (rawF p.2)) && decide (R.size < 9000) && p.2.all fieldOk
 | _, _ => false
set_option maxRecDepth 100000 in
theorem refK_at : refK = true := by decide +kernel
theorem uni_both {T R : ByteArray} {F : List ByteArray} (hG : Glyphs T F) (hT : ∀ k, 500 ≤ k → glyph_list.f k = some T) (hR : hornbookref14_list.f = some R) (hRF : R.data.toList = bodyOf (rawF F)) (hRs : R.size < 9000) (hok : ∀ f ∈ F, FieldOk f) (a : ByteArray) (ha : a.size ≤ 300) :
  ∃ u : List Int × Bool, glyph_Uni.f 20000 a = some u ∧ hornbookref14_Uni.f 20000 a = some u ∧ u.1.length < 1000 := by
 have hr : hornbookref14_Uni.f 20000 a = match findN a.toList F with
   | some f => some (valsF f, true)
   | none => some ([], false) := by
  unfold hornbookref14_Uni.f
  rw [hR, Option.bind_some]
  exact uni_fields a R (by omega) F [] 0 0 20000 hok (by rw [hRF]; rfl) rfl (by rw [← hRF, ← size_list]; omega)
 by_cases hb : a.toList ≠ [] ∧ ∀ b ∈ a.data.toList, b ≠ 32 ∧ b ≠ 61
 ·have hu := uni_eq2 (k := 19999) hG (hT 19999 (by decide)) a (by omega) hb.1 hb.2
  rw [find_eq a hb.2 F hok] at hu
  cases hf : findN a.toList F with
  | none => 
   rw [hf] at hu hr
   exact ⟨([], false), hu, hr, by decide⟩
  | some f =>
   rw [hf] at hu hr
   have hm := find_mem _ _ _ hf
   have ho := OkF.of (hG.ok f hm)
   refine ⟨(valsF f, true), ?_, hr, by have := (hok f hm).len; show (valsF f).length < 1000; omega⟩
   rw [hu]
   show (glyph_values.f ⟨(hxF f).data.toList.toArray⟩).bind _ = _
   rw [← ba_eta, ho.vals]
   rfl
 ·have hn : findN a.toList F = none := by
   refine find_none _ _ (fun f hf e => hb ?_)
   have ho := hok f hf
   refine ⟨by rw [← e]; exact ho.ne, fun b hb => ho.nm b ?_⟩
   rw [toList_data, toList_data] at e
   rw [e]; exact hb
  rw [hn] at hr
  refine ⟨([], false), ?_, hr, by decide⟩
  unfold glyph_Uni.f
  by_cases he : a.toList = []
  ·rw [if_pos he, glyph_Uni.j0, if_pos rfl]
  ·have hc : strings_ContainsAny.f a ⟨#[32, 61]⟩ = some true := by
    unfold strings_ContainsAny.f
    rw [if_pos ⟨by omega, by decide, .inr rfl, by decide⟩]
    exact congrArg some (contains_yes _ (fun h => hb ⟨he, h⟩))
   rw [if_neg he, hc, Option.bind_some, glyph_Uni.j0, if_pos rfl]
def onceF : List ByteArray → Bool
 | [] => true
 | f :: fs => (fs.all fun g => !((nmF g).data.toList == (nmF f).data.toList)) && onceF fs
def fewF (f : ByteArray) : Bool := decide (1 ≤ (valsF f).length) && decide ((valsF f).length ≤ 2) && ((valsF f).all fun v => decide (utf_Good.f v = some true)) && decide ((nmF f).size ≤ 100)
def namesK : Bool := match fieldsK 500 with
 | some p => onceF p.2 && p.2.all fewF && !p.2.isEmpty
 | none => false
set_option maxRecDepth 100000 in
theorem namesK_at : namesK = true := by decide +kernel
structure FewF (f : ByteArray) : Prop where
 one : 1 ≤ (valsF f).length
 two : (valsF f).length ≤ 2
 good : ∀ v ∈ valsF f, utf_Good.f v = some true
 size : (nmF f).size ≤ 100
theorem FewF.of {f : ByteArray} (h : fewF f = true) : FewF f := by
 simp only [fewF, Bool.and_eq_true, decide_eq_true_eq] at h
 obtain ⟨⟨⟨h1, h2⟩, h3⟩, h4⟩ := h
 exact ⟨h1, h2, fun v hv => of_decide_eq_true (List.all_eq_true.1 h3 v hv), h4⟩
theorem once_at : ∀ F : List ByteArray, onceF F = true → ∀ i j : Nat, i < j → ∀ (hi : i < F.length) (hj : j < F.length), (nmF F[i]).toList ≠ (nmF F[j]).toList
 | [], _, i, j, _, hi, _ => absurd hi (Nat.not_lt_zero _)
 | f :: fs, h, i, j, hij, hi, hj => by
  rw [onceF, Bool.and_eq_true] at h
  obtain ⟨j, rfl⟩ : ∃ m, j = m + 1 := ⟨j - 1, by omega⟩
  have hj' : j < fs.length := by simpa using hj
  cases i with
  | zero =>
   have := List.all_eq_true.1 h.1 fs[j] (List.getElem_mem hj')
   intro e
   rw [toList_data, toList_data] at e
   have e2 : (nmF fs[j]).data.toList = (nmF f).data.toList := e.symm
   rw [e2] at this
   simp at this
  | succ i => exact once_at fs h.2 i j (by omega) (by simpa using hi) hj'
theorem once_eq {F : List ByteArray} (h : onceF F = true) {i j : Nat} (hi : i < F.length) (hj : j < F.length) (e : (nmF F[i]).toList = (nmF F[j]).toList) : i = j := by
 rcases Nat.lt_trichotomy i j with h1 | h1 | h1
 ·exact absurd e (once_at F h i j h1 hi hj)
 ·exact h1
 ·exact absurd e.symm (once_at F h j i h1 hj hi)
theorem backIn_ahead (r : Int) : ∀ (F : List ByteArray) (i : Nat) (hi : i < F.length), valsF F[i] = [r] → ∃ j, ∃ hj : j < F.length, j ≤ i ∧ backIn r F = (nmF F[j], true)
 | [], i, hi, _ => absurd hi (Nat.not_lt_zero _)
 | f :: fs, i, hi, h => by
  by_cases hf : valsF f = [r]
  ·exact ⟨0, Nat.succ_pos _, Nat.zero_le _, by rw [backIn, if_pos hf]; rfl⟩
  ·cases i with
   | zero => exact absurd h hf
   | succ i =>
    obtain ⟨j, hj, hji, e⟩ := backIn_ahead r fs i (by simpa using hi) h
    exact ⟨j + 1, by simpa using hj, by omega, by rw [backIn, if_neg hf, e]; rfl⟩
theorem rdn {F : List ByteArray} {i : Nat} (h : i < F.length) : rdOf ByteArray.empty (F.map nmF) (i : Int) = nmF F[i] := by
 unfold rdOf
 rw [Int.toNat_natCast, List.getD_eq_getElem?_getD, List.getElem?_map, List.getElem?_eq_getElem h]
 rfl
theorem good_loop {F : List ByteArray} {u : List Int} (hg : ∀ v ∈ u, utf_Good.f v = some true) (hu : u.length < 1000) (hu1 : 1 ≤ u.length) (a1 : Int) (I : Int) (K : Nat) (b : ByteArray) (c : Bool)
  (hb : ∀ k, K ≤ k → glyph_Back.f k (rd u 0) = some (b, c)) (hend : ∀ k, K ≤ k → hornbooklaw14_GlyphNames.l1 k a1 true (F.map nmF) I u (-1) b c 0 = some true) (d : Nat) : ∀ (i k : Nat), u.length - i = d → i ≤ u.length → d + 1 + K ≤ k →
  hornbooklaw14_GlyphNames.l0 k a1 true (F.map nmF) I u i = some true := by
 induction d with
 | zero =>
  intro i k hd hi hk
  obtain ⟨k, rfl⟩ : ∃ m, k = m + 1 := ⟨k - 1, by omega⟩
  rw [hornbooklaw14_GlyphNames.l0, if_neg (by omega), if_pos (by omega), hb k (by omega), Option.bind_some]
  exact hend k (by omega)
 | succ d ih =>
  intro i k hd hi hk
  obtain ⟨k, rfl⟩ : ∃ m, k = m + 1 := ⟨k - 1, by omega⟩
  have hlt : i < u.length := by omega
  have hr : rd u (i : Int) = u[i] := by
   unfold rd
   rw [Int.toNat_natCast, List.getD_eq_getElem?_getD, List.getElem?_eq_getElem hlt]
   rfl
  rw [hornbooklaw14_GlyphNames.l0, if_pos (by omega), if_pos (by omega), hr, hg _ (List.getElem_mem hlt), Option.bind_some, if_pos rfl, wrap_next i (by omega)]
  exact ih (i + 1) k (by omega) (by omega) (by omega)
/-- What the walk over all names ends with: the place of the value's name, or none. -/
theorem at_loop {F : List ByteArray} (hn : onceF F = true) (hl : F.length < 1000) {u : List Int} (a1 : Int) (I : Nat) (hI : I < F.length) (b : ByteArray) (c : Bool) (j0 : Nat) (hj0 : j0 < F.length)
  (hgo : u.length = 2 ∨ (c = true ∧ j0 ≤ I ∧ (nmF F[j0]).toList = b.toList)) (K : Nat)
  (huni : ∀ k, K ≤ k → ∃ v w, glyph_Uni.f k (nmF F[I] ++ strOfNums [a1]) = some (v, w) ∧ (w = true ∨ v = [])) (hsz : (nmF F[I]).size + (strOfNums [a1]).size ≤ 9223372036854775807) (d : Nat) :
  ∀ (j k : Nat) (x : Int), F.length - j = d → j ≤ F.length → 2 * d + 1 + K ≤ k → (u.length = 2 ∨ (0 ≤ x ∧ x ≤ I) ∨ (x = -1 ∧ j ≤ j0)) →
  hornbooklaw14_GlyphNames.l1 k a1 true (F.map nmF) I u x b c j = some true := by
 induction d with
 | zero =>
  intro j k x hd hj hk hx
  obtain ⟨k, rfl⟩ : ∃ m, k = m + 1 := ⟨k - 1, by omega⟩
  obtain ⟨v, w, hv, hvw⟩ := huni k (by omega)
  have hlast : (if w = true then (some true) else (some ((v.length : Int) == 0)) : Option Bool) = some true := by
   rcases hvw with e | e
   ·rw [e]; rfl
   ·rw [e]; cases w <;> rfl
  rw [hornbooklaw14_GlyphNames.l1, if_neg (by rw [List.length_map]; omega), if_pos (by omega), if_pos (by rw [List.length_map]; omega), Option.bind_some, rdn hI, if_pos hsz, hv, Option.bind_some, if_pos rfl]
  by_cases h2 : (u.length : Int) = 2
  ·rw [if_pos h2]; exact hlast
  ·rw [if_neg h2]
   rcases hx with h | h | h
   ·omega
   ·rw [if_pos (by omega), if_pos (by omega)]; exact hlast
   ·omega
 | succ d ih =>
  intro j k x hd hj hk hx
  obtain ⟨k, rfl⟩ : ∃ m, k = m + 2 := ⟨k - 2, by omega⟩
  have hlt : j < F.length := by omega
  have hstep : ∀ y : Int, (u.length = 2 ∨ (0 ≤ y ∧ y ≤ I) ∨ (y = -1 ∧ j + 1 ≤ j0)) → hornbooklaw14_GlyphNames.l1 k a1 true (F.map nmF) I u y b c (wrap64 ((j : Int) + 1)) = some true := by
   intro y hy
   rw [wrap_next j (by omega)]
   exact ih (j + 1) k y (by omega) (by omega) (by omega) hy
  rw [hornbooklaw14_GlyphNames.l1, if_pos (by rw [List.length_map]; omega), if_pos (by omega), if_pos (by omega), if_pos (by rw [List.length_map]; omega), rdn hlt, rdn hI]
  have hj3 : hornbooklaw14_GlyphNames.j3 (k + 1) a1 true (F.map nmF) I u x b c j false = some true := by
   rw [hornbooklaw14_GlyphNames.j3, if_neg (by decide)]
   by_cases hc : c = true
   ·rw [if_pos hc, if_pos (by omega), if_pos (by rw [List.length_map]; omega), rdn hlt]
    by_cases he : (nmF F[j]).toList = b.toList
    ·rw [if_pos he]
     by_cases hx0 : x < 0
     ·rw [if_pos hx0]
      refine hstep _ ?_
      rcases hgo with h | ⟨h1, h2, h3⟩
      ·exact .inl h
      ·have := once_eq hn hlt hj0 (he.trans h3.symm)
       exact .inr (.inl ⟨by omega, by omega⟩)
     ·rw [if_neg hx0]
      refine hstep _ ?_
      rcases hx with h | h | h
      ·exact .inl h
      ·exact .inr (.inl h)
      ·omega
    ·rw [if_neg he]
     refine hstep _ ?_
     rcases hx with h | h | ⟨h, h'⟩
     ·exact .inl h
     ·exact .inr (.inl h)
     ·rcases hgo with g | ⟨g1, g2, g3⟩
      ·exact .inl g
      ·refine .inr (.inr ⟨h, ?_⟩)
       have : j ≠ j0 := fun e => he (by subst e; exact g3)
       omega
   ·rw [if_neg hc]
    refine hstep _ ?_
    rcases hgo with g | ⟨g1, -⟩
    ·exact .inl g
    ·exact absurd g1 hc
  by_cases hij : j = I
  ·subst hij
   rw [if_pos rfl, bne_self_eq_false]
   exact hj3
  ·rw [if_neg (fun e => hij (once_eq hn hlt hI e))]
   exact hj3
theorem GlyphNames : hornbooklaw14_GlyphNames.Pure := by
 intro a0 a1 _ _
 obtain ⟨T, F, hT, hF, hG, hK⟩ := glyphs_are
 have hA := refK_at
 unfold refK at hA
 rw [hK] at hA
 cases hR : hornbookref14_list.f with
 | none => rw [hR] at hA; cases hA
 | some R =>
 rw [hR] at hA
 simp only [Bool.and_eq_true, decide_eq_true_eq] at hA
 obtain ⟨⟨hRF, hRs⟩, hall⟩ := hA
 have hok : ∀ f ∈ F, FieldOk f := fun f hf => FieldOk.of (List.all_eq_true.1 hall f hf)
 have hN := namesK_at
 unfold namesK at hN
 rw [hK] at hN
 dsimp only at hN
 rw [Bool.and_eq_true, Bool.and_eq_true] at hN
 obtain ⟨⟨hn, hfew⟩, hne⟩ := hN
 have hfw : ∀ f ∈ F, FewF f := fun f hf => FewF.of (List.all_eq_true.1 hfew f hf)
 have hlen := hG.len
 have hpos : 0 < F.length := by
  cases F with
  | nil => cases hne
  | cons f F => exact Nat.succ_pos _
 have hm : Go.bits .and .i64 a0 65535 = a0 % 65536 := and_mask a0 16 (by decide) 65535 (by decide)
 obtain ⟨I, hI, hI2⟩ : ∃ I : Nat, Int.tmod (a0 % 65536) (F.length : Int) = (I : Int) ∧ I < F.length := by
  have h := Int.tmod_eq_emod_of_nonneg (a := a0 % 65536) (b := (F.length : Int)) (Int.emod_nonneg _ (by decide))
  have h1 := Int.emod_nonneg (a0 % 65536) (show (F.length : Int) ≠ 0 by omega)
  have h2 := Int.emod_lt_of_pos (a0 % 65536) (show (0 : Int) < (F.length : Int) by omega)
  rw [h]
  exact ⟨(a0 % 65536 % (F.length : Int)).toNat, by omega, by omega⟩
 have hfI := List.getElem_mem hI2
 have hw := hfw _ hfI
 obtain ⟨b, c, j0, hj0, hbc, hgo⟩ : ∃ b c j0, ∃ hj0 : j0 < F.length, backIn (rd (valsF F[I]) 0) F = (b, c) ∧ ((valsF F[I]).length = 2 ∨ (c = true ∧ j0 ≤ I ∧ (nmF F[j0]).toList = b.toList)) := by
  by_cases h1 : (valsF F[I]).length = 1
  ·have e : valsF F[I] = [rd (valsF F[I]) 0] := (one_rd (by omega)).1 rfl
   obtain ⟨j, hj, hji, hb⟩ := backIn_ahead _ F I hI2 e
   exact ⟨_, _, j, hj, hb, .inr ⟨rfl, hji, rfl⟩⟩
  ·have := hw.one
   have := hw.two
   exact ⟨_, _, I, hI2, rfl, .inl (by omega)⟩
 have hs1 : (strOfNums [a1]).size = 1 := by
  rw [size_list, ← toList_data, Lib.strOfNums_toList]
  rfl
 have hsa : ((nmF F[I]) ++ strOfNums [a1]).size ≤ 300 := by rw [ByteArray.size_append, hs1]; have := hw.size; omega
 have huni : ∀ k, 20000 ≤ k → ∃ v w, glyph_Uni.f k (nmF F[I] ++ strOfNums [a1]) = some (v, w) ∧ (w = true ∨ v = []) := by
  intro k hk
  obtain ⟨u, hu, hv, hul⟩ := uni_both hG hT hR hRF hRs hok _ hsa
  have hr : hornbookref14_Uni.f 20000 (nmF F[I] ++ strOfNums [a1]) = match findN (nmF F[I] ++ strOfNums [a1]).toList F with
    | some f => some (valsF f, true)
    | none => some ([], false) := by
   unfold hornbookref14_Uni.f
   rw [hR, Option.bind_some]
   exact uni_fields _ R (by omega) F [] 0 0 20000 hok (by rw [hRF]; rfl) rfl (by rw [← hRF, ← size_list]; omega)
  have hup := le_rounds (g := fun k => glyph_Uni.f k (nmF F[I] ++ strOfNums [a1])) (fun k => glyph_Uni.mono _ k) hu hk
  refine ⟨u.1, u.2, hup, ?_⟩
  rw [hv] at hr
  split at hr
  ·obtain rfl := Option.some.inj hr; exact .inl rfl
  ·obtain rfl := Option.some.inj hr; exact .inr rfl
 refine ⟨30000, ?_⟩
 have hul2 : (valsF F[I]).length < 1000 := by have := hw.two; omega
 unfold hornbooklaw14_GlyphNames.f
 rw [awake14 (by decide), Option.bind_some, names_eq (k := 30000) hG (by decide) (hT 30000 (by decide)) hF, Option.bind_some, if_neg (by rw [List.length_map]; omega), List.length_map, hm, hI, if_pos (by omega), if_pos (by omega), rdn hI2,
  uni_in (k := 29999) hG (hT 29999 (by decide)) hfI, Option.bind_some, if_pos rfl, if_neg (by have := hw.one; show ¬ (((valsF F[I]).length : Int) < 1); omega)]
 rw [decide_eq_false (by have := hw.two; show ¬ (((valsF F[I]).length : Int) > 2); omega), hornbooklaw14_GlyphNames.j0, if_neg (by decide)]
 refine good_loop hw.good hul2 hw.one a1 I 25000 b c (fun k hk => by rw [back_eq (k := k) hG (by omega) (hT k (by omega)) hF, hbc]) (fun k hk => ?_) (valsF F[I]).length 0 29999 (by omega) (by omega) (by omega)
 exact at_loop hn hlen a1 I hI2 b c j0 hj0 hgo 20000 huni (by rw [hs1]; have := hw.size; omega) F.length 0 k (-1) (by omega) (by omega) (by omega) (.inr (.inr ⟨rfl, by omega⟩))
end Go.Proofs.YtdbadfcekomomaaDoor.M
end
section
/- each name of the list is there once, and has scalar values -/
namespace Go.Proofs.YtdbadfcekomomaaDoor.glyphNames
open Go Go.ChangeShapes Go.WideShapes Go.ChangeAt Go.RowKit
open Go.ChangeMaps (open_string shut_string)
set_option linter.unusedVariables false
theorem own : ownKnob Tryd.prog.godebug = none := by kernel_rfl
set_option maxRecDepth 100000 in
theorem lifted (os : Os) (started : os.Started) (H : Type) (enc : TypeId × Value → H) :
  ReturnsInHanded {} Tryd.checked os 4 .any (fun w args => (Rows.glyphNamesSpec.pre enc Tryd.prog Tryd.f4 Rows.glyphNamesRow.domain false w args ∧ laidMetH Tryd.prog Rows.glyphNamesRow.laid w) ∧ sizedMet enc Tryd.prog Tryd.f4 (OpenSpec.ofChange Rows.glyphNamesSpec) false w args)
   (Rows.glyphNamesSpec.post enc Tryd.prog Tryd.f4 false true false false) := by
 refine M.returns_both (C := Tryd.checked) (X := fun w _ => laidMetH Tryd.prog Rows.glyphNamesRow.laid w) (fun _ _ _ hh h => h.of_heap hh) own started (by kernel_rfl) Tryd.func4
  (ChangeSpec.witness_shaped (enc := enc) (C := Tryd.checked) (os := os) (X := fun w _ => laidMetH Tryd.prog Rows.glyphNamesRow.laid w) false (World.laidAll Tryd.prog os Rows.glyphNamesRow.laid) #[.int .i64 0, .int .u8 0] 8 (World.laidAll_os _ _ _)
   (World.shaped_of_ZipB (by kernel_rfl) (by kernel_rfl)) (by kernel_rfl) (by kernel_rfl) (by kernel_rfl)
   (by rw [MakeChecks.laidMetH_plain _ _ _ (by kernel_rfl)]; exact laidMet_laidAll _ (by kernel_rfl) (by kernel_rfl))) ?_
 intro W base args ds gs before hval0 hW hcnd hsz0 hL hshape
 have hsz : (DataW.weightsEach Tryd.prog (Tryd.f4.params.toList ++ Rows.glyphNamesSpec.plain.varTypes Tryd.prog) (ds ++ gs)).all (· ≤ reachBytes) = true := hsz0
 have hval : ∀ (j : Nat) t v, Tryd.f4.params[j]? = some t → args[j]? = some v → Value.okWide Tryd.prog W .any base t v := hval0
 have hLp := hL
 rw [MakeChecks.laidMetH_plain _ _ _ (by kernel_rfl)] at hLp
 have hG : M.GW W := M.GW.of_mets (hLp.tail.tail.tail.tail) (hLp.tail.tail.tail.tail.tail) (hLp.tail.tail.tail.tail.tail.tail.tail) (hLp.tail.tail) hshape
 have hW' := hW
 obtain ⟨p, q, hA0, hV, rfl, hfz, hnd⟩ := hW
 have hA : DataW.TrodAll enc Tryd.prog W 0 (fun _ => true) true Tryd.f4.params.toList args.toList ds p := hA0
 rw [Tryd.params4] at hA hval hsz
 obtain ⟨v0, vs0, d0, ds0, p0, q0, hargs, rfl, rfl, h0, r0⟩ := trodAll_cons hA
 obtain ⟨v1, vs1, d1, ds1, p1, q1, rfl, rfl, rfl, h1, r1⟩ := trodAll_cons r0
 obtain ⟨rfl, rfl, rfl⟩ := trodAll_nil r1
 obtain rfl : args = #[v0, v1] := by cases args; simp_all
 obtain ⟨rfl, rfl⟩ := trodVars_none hV
 obtain ⟨a0, rfl, rfl, rfl, w0⟩ := open_int Tryd.underlying3 (hval 0 3 v0 rfl rfl) h0
 obtain ⟨a1, rfl, rfl, rfl, w1⟩ := open_int Tryd.underlying5 (hval 1 5 v1 rfl rfl) h1
 clear hA0 hval0 hsz0 hsz
 refine (M.hornbooklaw14_GlyphNames.walk M.GlyphNames a0 a1 W w0 w1 hG).mono fun e W' ⟨he, bel⟩ => ?_
 subst he
 exact ⟨_, rfl, _, _, _, [], _, [], hW', trodAll_mk1 (shut_bool Tryd.underlying4 _), (trodAll_cons_mk (shut_int Tryd.underlying3 w0) (trodAll_cons_mk (shut_int Tryd.underlying5 w1) trodAll_mk0)), rfl, bel.frame _, fun h => by cases h⟩
theorem over : Rows.glyphNamesRow.holds Tryd.pinned (OpenSpec.ofChange Rows.glyphNamesSpec) :=
 OpenClaim.holds_of_wide 4 Tryd.f4 rfl rfl rfl rfl rfl rfl rfl ⟨rfl, rfl, rfl, rfl, rfl⟩ rfl rfl rfl rfl rfl (by kernel_rfl) Tryd.func4 (by kernel_rfl)
  (of_decide_eq_true (by kernel_rfl)) (by unfold Func.isWrapper; first | (rw [if_pos (by decide +kernel)]; kernel_rfl) | (rw [if_neg (by decide +kernel)]; exact ⟨rfl, rfl⟩))
  (fun os started H enc _ => lifted os started H enc)
theorem proved : Rows.GlyphNamesSaid := over
theorem card : Rows.GlyphNamesCardSaid :=
 Claim7.holds_tied_plain_at .later [] [.data, .data, .data, .data, .sentinel, .sentinel, .listed, .data, .pinned] true (true, "c5423f193754e5c1b4786623e676175ec33b4a5b946deba5d2643119b74fcdaa") true
  proved (fun _ h => by cases h) (by kernel_rfl) (fun _ h => by cases h) glyphNames_row_tie rfl ⟨rfl, rfl⟩ (by kernel_rfl) rfl
  (fun f fn hf hfn => by
   obtain rfl : f = 4 := Option.some.inj ((show Tryd.prog.funcNamed "hornbook/hornbooklaw14.GlyphNames" = some 4 by kernel_rfl).symm.trans hf) |>.symm
   obtain rfl : fn = Tryd.f4 := (Option.some.inj (Tryd.func4.symm.trans hfn)).symm
   exact ⟨by kernel_rfl, fun j t ht => by
    rw [Tryd.params4] at ht
    have hm : t ∈ [3, 5] := by simpa using Array.mem_of_getElem? ht
    have hall : ([3, 5].all fun u => !Tryd.prog.wantsStandIn u) = true := by kernel_rfl
    exact (show Tryd.prog.wantsStandIn t = false by simpa using List.all_eq_true.1 hall t hm)⟩)
  (by kernel_rfl)
end Go.Proofs.YtdbadfcekomomaaDoor.glyphNames
namespace Go.Proofs.YtdbadfcekomomaaDoor
/-- The statement, under a short name, for the claim. -/
theorem glyphNames_holds : Rows.GlyphNamesCardSaid := glyphNames.card
#print axioms glyphNames_holds
end Go.Proofs.YtdbadfcekomomaaDoor
end
