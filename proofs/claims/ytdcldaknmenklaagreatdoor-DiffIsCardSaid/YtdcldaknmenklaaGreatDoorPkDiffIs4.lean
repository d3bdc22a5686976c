/- Packed by this session's program hbpack.py out of this claim's own texts (Q61, Q95, Q62, Q117, Q96, Q63, Q97, Q64, Q39, Q31, Q16, Q17, Q32, Q65): the same declarations, without those that the claim does not use. -/
import Derived.Test.YtdcldaknmenklaaGreatDoorPkDiffIs3
section
/- Laid by this session's program hbprint.py out of the translation: the function hornbook/hornbookref03.Name and its contract. -/
namespace Go.Proofs.YtdcldaknmenklaaGreatDoor.M
open Go.RowKit Go.Proofs.YtdcldaknmenklaaGreatDoorW.PrintWords Go.Proofs.YtdcldaknmenklaaGreatDoorW.PrintLast Go.Proofs.YtdcldaknmenklaaGreatDoorW.PrintMore
attribute [local go_sem] max2_int min2_int max_two min_two max_three min_three max_four min_four
set_option linter.unusedVariables false
set_option linter.unusedSimpArgs false
mutual
def hornbookref03_Name.l0 : Nat → ByteArray → List Int → Int → Option (ByteArray)
 | 0, _, _, _ => none
 | k + 1, x0, x3, x4 => if x4 < (x0.size : Int) then (if 0 ≤ x4 then (if (bt x0 x4) = 35 then (hornbookref03_Name.j1 k x0 x3 x4 (decide ((wrap64 (x4 + 2)) < (x0.size : Int)))) else (hornbookref03_Name.j1 k x0 x3 x4 false)) else (none)) else (some (strOfNums x3))
def hornbookref03_Name.j1 : Nat → ByteArray → List Int → Int → Bool → Option (ByteArray)
 | 0, _, _, _, _ => none
 | k + 1, x0, x3, x4, x25 => if x25 = true then (if 0 ≤ (wrap64 (x4 + 1)) then (if (wrap64 (x4 + 1)) < (x0.size : Int) then ((hornbookref01_Digit.f k (wrap64 (bt x0 (wrap64 (x4 + 1))))).bind fun bt416 => (if 0 ≤ (wrap64 (x4 + 2)) then (if (wrap64 (x4 + 2)) < (x0.size : Int) then ((hornbookref01_Digit.f k (wrap64 (bt x0 (wrap64 (x4 + 2))))).bind fun bt418 => (if bt416.2 = true then (if bt418.2 = true then (if x3.length < 140737488355328 then (hornbookref03_Name.l0 k x0 (x3 ++ [(wrap64 ((wrap64 (16 * bt416.1)) + bt418.1)) % 256]) (wrap64 ((wrap64 (x4 + 2)) + 1))) else (none)) else (if 0 ≤ x4 then (if x4 < (x0.size : Int) then (if x3.length < 140737488355328 then (hornbookref03_Name.l0 k x0 (x3 ++ [bt x0 x4]) (wrap64 (x4 + 1))) else (none)) else (none)) else (none))) else (if 0 ≤ x4 then (if x4 < (x0.size : Int) then (if x3.length < 140737488355328 then (hornbookref03_Name.l0 k x0 (x3 ++ [bt x0 x4]) (wrap64 (x4 + 1))) else (none)) else (none)) else (none)))) else (none)) else (none))) else (none)) else (none)) else (if 0 ≤ x4 then (if x4 < (x0.size : Int) then (if x3.length < 140737488355328 then (hornbookref03_Name.l0 k x0 (x3 ++ [bt x0 x4]) (wrap64 (x4 + 1))) else (none)) else (none)) else (none))
end
def hornbookref03_Name.f (k : Nat) (a0 : ByteArray) : Option (ByteArray) := hornbookref03_Name.l0 k a0 ([] : List Int) 0
set_option maxHeartbeats 8000000 in
set_option maxRecDepth 100000 in
theorem hornbookref03_Name.calls (k : Nat) (a0 : ByteArray) (r : ByteArray) (w : World) (h : hornbookref03_Name.f k a0 = some r) :
  Calls Tryz.prog 61 #[.string a0] w fun e w' => e = .returned (.string r) ∧ Below w.heap.size w w' := by
 have HB := aM (Below.refl w.heap.size w)
 have H : (hornbookref03_Name.l0 k a0 ([] : List Int) 0) = some r := h
 clear h
 have H' := aM H
 clear H
 go_enter Tryz.func61, Tryz.ntmps61
 go_wp2
 go_loopg [3, 4] k (fun kq v3 v4 w' => ∃ (x3_1 : List Int) (x4_1 : Int), v4 = .int .i64 x4_1 ∧ Aside0 (hornbookref03_Name.l0 kq a0 x3_1 x4_1 = some r) ∧ Aside0 (kq ≤ k) ∧ Aside0 (Kd.R (Kd.int .u8) 5 w' w.heap.size (fun _ => True) v3 x3_1) ∧ Aside0 (Below w.heap.size w w'))
 case atStart => exact ⟨(([] : List Int)), (0), vQ, H', ⟨Nat.le_refl _⟩, ⟨by first | exact Kd.R_nil _ _ _ _ _ | exact Kd.N_nil _ _ _ _ _ | exact Kd.V_nil _ _ _ _ _ | exact Kd.Q_nil _ _ _ _ _ | exact Kd.S_nil _ _ _ _ _⟩, ⟨bQ⟩⟩
 case round =>
  clear H'
  obtain ⟨x3_1, x4_1, rfl, HA, HK1, HO_3, HB⟩ := hrel
  cases gk with
  | zero => exact absurd HA.out (by simp [hornbookref03_Name.l0])
  | succ k1 =>
   have H := HA.out
   clear HA
   simp only [hornbookref03_Name.l0] at H
   refine iD H ?_ ?_<;>clear H<;>intro H c2b0
   rotate_left
   ·obtain rfl := Option.some.inj H
    have hcv37 := own_string (P := Tryz.prog) Tryz.underlying78 Tryz.underlying5 Tryz.underlying9 (Kd.own_of_R HO_3.out)
    go_wp2
    go_ret
    exact ⟨eQ, bQ⟩
   have HC3 := aM H
   clear H
   go_upto_region 5 with (fail)
   go_cut [25] (fun v25 wc => ∃ (kq : Nat) (x25_2 : Bool), v25 = .bool x25_2 ∧ Aside0 (hornbookref03_Name.j1 kq a0 x3_1 x4_1 x25_2 = some r) ∧ Aside0 (kq ≤ k1) ∧ Aside0 (Kd.R (Kd.int .u8) 5 wc w.heap.size (fun _ => True) u3 x3_1) ∧ Aside0 (Below w.heap.size w wc))
   case first =>
    have H := HC3.out
    clear HC3
    refine iD H ?_ ?_<;>clear H<;>intro H c4b0
    rotate_left
    ·exact absurd H (by simp)
    (first | rw [c4b0] | (simp only [i64_w, i32_w]; rw [c4b0]) | skip)
    refine iEc H ?_ ?_<;>clear H<;>intro H c6b0 c6b1 c6
    rotate_left
    ·have H' := aM H
     clear H
     have p5 : 0 ≤ (x4_1 : Int) := of_decide_eq_true hQ
     have q5 : x4_1 < (a0.size : Int) := of_decide_eq_true hQ
     have hx5 := bt_at a0 x4_1
     replace p5 := eq_true p5
     replace q5 := eq_true q5
     go_wp2
     go_meet
     case rel => exact ⟨_, (false), vQ, H', ⟨by have := HK1.out; first | omega | exact Nat.le_refl _⟩, ⟨mQ HO_3⟩, ⟨bQ⟩⟩
    clear c6
    have H' := aM H
    clear H
    have p5 : 0 ≤ (x4_1 : Int) := of_decide_eq_true hQ
    have q5 : x4_1 < (a0.size : Int) := of_decide_eq_true hQ
    have hx5 := bt_at a0 x4_1
    replace p5 := eq_true p5
    replace q5 := eq_true q5
    go_wp2
    go_meet
    case rel => exact ⟨_, (decide ((wrap64 (x4_1 + 2)) < (a0.size : Int))), vQ, H', ⟨by have := HK1.out; first | omega | exact Nat.le_refl _⟩, ⟨mQ HO_3⟩, ⟨bQ⟩⟩
   case rest =>
    clear HC3
    try clear c2
    try clear c2b0
    try clear p2
    try clear c4
    try clear c4b0
    try clear p5
    try clear q5
    try clear hx5
    try clear c6
    try clear c6b0
    try clear c6b1
    try clear p6
    try clear p5
    try clear q5
    obtain ⟨kq, x25_2, rfl, HA, HJ2, HO_3, HB⟩ := hcut
    cases kq with
    | zero => exact absurd HA.out (by simp [hornbookref03_Name.j1])
    | succ kj2 =>
     have H := HA.out
     clear HA
     simp only [hornbookref03_Name.j1] at H
     by_cases c7 : x25_2 = true
     rotate_left
     ·replace c7 := Bool.eq_false_iff.mpr c7
      subst c7
      rw [if_neg (show ¬ (false = true) by decide)] at H
      refine iD H ?_ ?_<;>clear H<;>intro H c32b0
      rotate_left
      ·exact absurd H (by simp)
      refine iD H ?_ ?_<;>clear H<;>intro H c33b0
      rotate_left
      ·exact absurd H (by simp)
      refine iNc H ?_ ?_<;>clear H<;>intro H c35
      rotate_left
      ·exact absurd H (by simp)
      have LMc35 := aM c35
      clear c35
      obtain ⟨y429, hy429⟩ : ∃ y_ : List Int, y_ = (x3_1 ++ [bt a0 x4_1]) := ⟨_, rfl⟩
      replace H : (hornbookref03_Name.l0 kj2 a0 y429 (wrap64 (x4_1 + 1))) = some r := by first | (rw [hy429]; with_reducible exact H) | (have H2_ := (Option.bind_some _ _).symm.trans H; rw [hy429]; with_reducible exact H2_) | (have H2_ := (Option.bind_some _ _).symm.trans H; with_reducible exact H2_) | with_reducible exact H | (rw [hy429]; exact H) | exact H
      have Ny429 := aM hy429
      clear hy429
      have H' := aM H
      clear H
      have p34 : 0 ≤ (x4_1 : Int) := of_decide_eq_true hQ
      have q34 : x4_1 < (a0.size : Int) := of_decide_eq_true hQ
      have hx34 := bt_at a0 x4_1
      replace p34 := eq_true p34
      replace q34 := eq_true q34
      go_wp2_with (first | ((with_reducible refine gate_builtin (b := .append) (xs := #[.tmp 58, .tmp 62]) rfl ?_); (try (refine gate_guard (by rfl) ?_; dsimp only)); at_builtin; refine Kd.R_append (Kd.int .u8) (w0 := w) w.heap.size rfl (.tmp 58) (.tmp 62) 78 5 (.int .u8 0) 1 rfl Tryz.underlying78 info5 rfl (by decide) (by omega) u3 x3_1 (bt a0 x4_1) [.int .u8 (bt a0 x4_1)] (fun _ => True) (fun _ => False) rfl rfl ?aP (fun _ hk => hk.elim) ?aF ?aO ?aB ?aS ?aL ?_; (case aP => exact rfl); (case aB => exact bQ); (case aF => exact (fun _ _ => trivial)); (case aO => exact (mQ HO_3)); (case aS => exact (below_size bQ)); (case aL => have := LMc35.out; omega); intro v430 w36 ho hb hg hat; rw [← Ny429.out] at ho; have n0_ := aM hb; have n1_ := aM ho; clear HB; clear HO_3; have HB := n0_; have HO431 := n1_; clear n0_ n1_; clear ho hb hg hat))
      go_roundg kj2
      case measure => have := HK1.out; have := HJ2.out; omega
      case rel => exact ⟨(y429), (wrap64 (x4_1 + 1)), vQ, H', ⟨by have := HK1.out; have := HJ2.out; omega⟩, ⟨mQ HO431⟩, ⟨bQ⟩⟩
     subst c7
     rw [if_pos rfl] at H
     obtain ⟨ji8, hji8⟩ : ∃ j_ : Int, (wrap64 (x4_1 + 1)) = j_ := ⟨_, rfl⟩
     replace H : (if 0 ≤ (ji8) then (if (ji8) < (a0.size : Int) then ((hornbookref01_Digit.f kj2 (wrap64 (bt a0 (ji8)))).bind fun bt416 => (if 0 ≤ (wrap64 (x4_1 + 2)) then (if (wrap64 (x4_1 + 2)) < (a0.size : Int) then ((hornbookref01_Digit.f kj2 (wrap64 (bt a0 (wrap64 (x4_1 + 2))))).bind fun bt418 => (if bt416.2 = true then (if bt418.2 = true then (if x3_1.length < 140737488355328 then (hornbookref03_Name.l0 kj2 a0 (x3_1 ++ [(wrap64 ((wrap64 (16 * bt416.1)) + bt418.1)) % 256]) (wrap64 ((wrap64 (x4_1 + 2)) + 1))) else (none)) else (if 0 ≤ x4_1 then (if x4_1 < (a0.size : Int) then (if x3_1.length < 140737488355328 then (hornbookref03_Name.l0 kj2 a0 (x3_1 ++ [bt a0 x4_1]) ji8) else (none)) else (none)) else (none))) else (if 0 ≤ x4_1 then (if x4_1 < (a0.size : Int) then (if x3_1.length < 140737488355328 then (hornbookref03_Name.l0 kj2 a0 (x3_1 ++ [bt a0 x4_1]) ji8) else (none)) else (none)) else (none)))) else (none)) else (none))) else (none)) else (none)) = some r := by first | (rw [hji8] at H; exact H) | (simp only [hji8] at H ⊢; exact H)
     have hji8w : (IntKind.i64.wrap (x4_1 + 1)) = ji8 := (i64_w _).trans hji8
     refine iD H ?_ ?_<;>clear H<;>intro H c9b0
     rotate_left
     ·exact absurd H (by simp)
     refine iD H ?_ ?_<;>clear H<;>intro H c10b0
     rotate_left
     ·exact absurd H (by simp)
     replace H := bS H
     obtain ⟨⟨t416, t417⟩, A12, H⟩ := H
     try dsimp only at H
     obtain ⟨ji13, hji13⟩ : ∃ j_ : Int, (wrap64 (x4_1 + 2)) = j_ := ⟨_, rfl⟩
     replace H : (if 0 ≤ (ji13) then (if (ji13) < (a0.size : Int) then ((hornbookref01_Digit.f kj2 (wrap64 (bt a0 (ji13)))).bind fun bt418 => (if t417 = true then (if bt418.2 = true then (if x3_1.length < 140737488355328 then (hornbookref03_Name.l0 kj2 a0 (x3_1 ++ [(wrap64 ((wrap64 (16 * t416)) + bt418.1)) % 256]) (wrap64 ((ji13) + 1))) else (none)) else (if 0 ≤ x4_1 then (if x4_1 < (a0.size : Int) then (if x3_1.length < 140737488355328 then (hornbookref03_Name.l0 kj2 a0 (x3_1 ++ [bt a0 x4_1]) ji8) else (none)) else (none)) else (none))) else (if 0 ≤ x4_1 then (if x4_1 < (a0.size : Int) then (if x3_1.length < 140737488355328 then (hornbookref03_Name.l0 kj2 a0 (x3_1 ++ [bt a0 x4_1]) ji8) else (none)) else (none)) else (none)))) else (none)) else (none)) = some r := by first | (rw [hji13] at H; exact H) | (simp only [hji13] at H ⊢; exact H)
     (try rw [hji13] at A12)
     have hji13w : (IntKind.i64.wrap (x4_1 + 2)) = ji13 := (i64_w _).trans hji13
     refine iD H ?_ ?_<;>clear H<;>intro H c14b0
     rotate_left
     ·exact absurd H (by simp)
     refine iD H ?_ ?_<;>clear H<;>intro H c15b0
     rotate_left
     ·exact absurd H (by simp)
     replace H := bS H
     obtain ⟨⟨t418, t419⟩, A17, H⟩ := H
     try dsimp only at H
     by_cases c18 : t417 = true
     rotate_left
     ·replace c18 := Bool.eq_false_iff.mpr c18
      subst c18
      rw [if_neg (show ¬ (false = true) by decide)] at H
      refine iD H ?_ ?_<;>clear H<;>intro H c27b0
      rotate_left
      ·exact absurd H (by simp)
      refine iD H ?_ ?_<;>clear H<;>intro H c28b0
      rotate_left
      ·exact absurd H (by simp)
      refine iNc H ?_ ?_<;>clear H<;>intro H c30
      rotate_left
      ·exact absurd H (by simp)
      have LMc30 := aM c30
      clear c30
      obtain ⟨y426, hy426⟩ : ∃ y_ : List Int, y_ = (x3_1 ++ [bt a0 x4_1]) := ⟨_, rfl⟩
      replace H : (hornbookref03_Name.l0 kj2 a0 y426 ji8) = some r := by first | (rw [hy426]; with_reducible exact H) | (have H2_ := (Option.bind_some _ _).symm.trans H; rw [hy426]; with_reducible exact H2_) | (have H2_ := (Option.bind_some _ _).symm.trans H; with_reducible exact H2_) | with_reducible exact H | (rw [hy426]; exact H) | exact H
      have Ny426 := aM hy426
      clear hy426
      have H' := aM H
      clear H
      have p11 : 0 ≤ ((ji8) : Int) := of_decide_eq_true hQ
      have q11 : (ji8) < (a0.size : Int) := of_decide_eq_true hQ
      have hx11 := bt_at a0 (ji8)
      replace p11 := eq_true p11
      replace q11 := eq_true q11
      go_wp2_with (first | ((with_reducible refine gC 94 ?_); refine goesL_ (some 32) rfl rfl Tryz.func94 (by kernel_rfl) rfl #[.int .i64 (wrap64 (bt a0 (ji8)))] rfl (by (try simp only [List.map_toArray, List.map_cons, List.map_nil]); first | done | (simp only [hji8]; rfl) | rfl | (simp only [List.length_drop, List.length_take]; rfl)) ?_; (with_reducible refine (hornbookref01_Digit.calls kj2 (wrap64 (bt a0 (ji8))) t416 false _ A12.out).mono ?_); rintro e w' ⟨rfl, ⟨nd, rfl⟩⟩; refine ⟨_, rfl, ?_⟩; have p16 : 0 ≤ ((ji13) : Int) := of_decide_eq_true hQ; have q16 : (ji13) < (a0.size : Int) := of_decide_eq_true hQ; have hx16 := bt_at a0 (ji13); replace p16 := eq_true p16; replace q16 := eq_true q16) | ((with_reducible refine gC 94 ?_); refine goesL_ (some 41) rfl rfl Tryz.func94 (by kernel_rfl) rfl #[.int .i64 (wrap64 (bt a0 (ji13)))] rfl (by (try simp only [List.map_toArray, List.map_cons, List.map_nil]); first | done | (simp only [hji13]; rfl) | rfl | (simp only [List.length_drop, List.length_take]; rfl)) ?_; (with_reducible refine (hornbookref01_Digit.calls kj2 (wrap64 (bt a0 (ji13))) t418 t419 _ A17.out).mono ?_); rintro e w' ⟨rfl, ⟨nd, rfl⟩⟩; refine ⟨_, rfl, ?_⟩; have p29 : 0 ≤ (x4_1 : Int) := of_decide_eq_true hQ; have q29 : x4_1 < (a0.size : Int) := of_decide_eq_true hQ; have hx29 := bt_at a0 x4_1; replace p29 := eq_true p29; replace q29 := eq_true q29) | ((with_reducible refine gate_builtin (b := .append) (xs := #[.tmp 58, .tmp 62]) rfl ?_); (try (refine gate_guard (by rfl) ?_; dsimp only)); at_builtin; refine Kd.R_append (Kd.int .u8) (w0 := w) w.heap.size rfl (.tmp 58) (.tmp 62) 78 5 (.int .u8 0) 1 rfl Tryz.underlying78 info5 rfl (by decide) (by omega) u3 x3_1 (bt a0 x4_1) [.int .u8 (bt a0 x4_1)] (fun _ => True) (fun _ => False) rfl rfl ?aP (fun _ hk => hk.elim) ?aF ?aO ?aB ?aS ?aL ?_; (case aP => exact rfl); (case aB => exact bQ); (case aF => exact (fun _ _ => trivial)); (case aO => exact (mQ HO_3)); (case aS => exact (below_size bQ)); (case aL => have := LMc30.out; omega); intro v427 w31 ho hb hg hat; rw [← Ny426.out] at ho; have n0_ := aM hb; have n1_ := aM ho; clear HB; clear HO_3; have HB := n0_; have HO428 := n1_; clear n0_ n1_; clear ho hb hg hat))
      go_roundg kj2
      case measure => have := HK1.out; have := HJ2.out; omega
      case rel => exact ⟨(y426), (ji8), (by first | rfl | (simp; done) | (simp only [← hji8] <;> (first | rfl | simp)) | (simp [*]; done)), H', ⟨by have := HK1.out; have := HJ2.out; omega⟩, ⟨mQ HO428⟩, ⟨bQ⟩⟩
     subst c18
     rw [if_pos rfl] at H
     by_cases c19 : t419 = true
     ·subst c19
      rw [if_pos rfl] at H
      refine iNc H ?_ ?_<;>clear H<;>intro H c20
      rotate_left
      ·exact absurd H (by simp)
      have LMc20 := aM c20
      clear c20
      obtain ⟨y420, hy420⟩ : ∃ y_ : List Int, y_ = (x3_1 ++ [(wrap64 ((wrap64 (16 * t416)) + t418)) % 256]) := ⟨_, rfl⟩
      replace H : (hornbookref03_Name.l0 kj2 a0 y420 (wrap64 ((ji13) + 1))) = some r := by first | (rw [hy420]; with_reducible exact H) | (have H2_ := (Option.bind_some _ _).symm.trans H; rw [hy420]; with_reducible exact H2_) | (have H2_ := (Option.bind_some _ _).symm.trans H; with_reducible exact H2_) | with_reducible exact H | (rw [hy420]; exact H) | exact H
      have Ny420 := aM hy420
      clear hy420
      have H' := aM H
      clear H
      have p11 : 0 ≤ ((ji8) : Int) := of_decide_eq_true hQ
      have q11 : (ji8) < (a0.size : Int) := of_decide_eq_true hQ
      have hx11 := bt_at a0 (ji8)
      replace p11 := eq_true p11
      replace q11 := eq_true q11
      go_wp2_with (first | ((with_reducible refine gC 94 ?_); refine goesL_ (some 32) rfl rfl Tryz.func94 (by kernel_rfl) rfl #[.int .i64 (wrap64 (bt a0 (ji8)))] rfl (by (try simp only [List.map_toArray, List.map_cons, List.map_nil]); first | done | (simp only [hji8]; rfl) | rfl | (simp only [List.length_drop, List.length_take]; rfl)) ?_; (with_reducible refine (hornbookref01_Digit.calls kj2 (wrap64 (bt a0 (ji8))) t416 true _ A12.out).mono ?_); rintro e w' ⟨rfl, ⟨nd, rfl⟩⟩; refine ⟨_, rfl, ?_⟩; have p16 : 0 ≤ ((ji13) : Int) := of_decide_eq_true hQ; have q16 : (ji13) < (a0.size : Int) := of_decide_eq_true hQ; have hx16 := bt_at a0 (ji13); replace p16 := eq_true p16; replace q16 := eq_true q16) | ((with_reducible refine gC 94 ?_); refine goesL_ (some 41) rfl rfl Tryz.func94 (by kernel_rfl) rfl #[.int .i64 (wrap64 (bt a0 (ji13)))] rfl (by (try simp only [List.map_toArray, List.map_cons, List.map_nil]); first | done | (simp only [hji13]; rfl) | rfl | (simp only [List.length_drop, List.length_take]; rfl)) ?_; (with_reducible refine (hornbookref01_Digit.calls kj2 (wrap64 (bt a0 (ji13))) t418 true _ A17.out).mono ?_); rintro e w' ⟨rfl, ⟨nd, rfl⟩⟩; refine ⟨_, rfl, ?_⟩) | ((with_reducible refine gate_builtin (b := .append) (xs := #[.tmp 48, .tmp 54]) rfl ?_); (try (refine gate_guard (by rfl) ?_; dsimp only)); at_builtin; refine Kd.R_append (Kd.int .u8) (w0 := w) w.heap.size rfl (.tmp 48) (.tmp 54) 78 5 (.int .u8 0) 1 rfl Tryz.underlying78 info5 rfl (by decide) (by omega) u3 x3_1 ((wrap64 ((wrap64 (16 * t416)) + t418)) % 256) [.int .u8 ((wrap64 ((wrap64 (16 * t416)) + t418)) % 256)] (fun _ => True) (fun _ => False) rfl rfl ?aP (fun _ hk => hk.elim) ?aF ?aO ?aB ?aS ?aL ?_; (case aP => exact rfl); (case aB => exact bQ); (case aF => exact (fun _ _ => trivial)); (case aO => exact (mQ HO_3)); (case aS => exact (below_size bQ)); (case aL => have := LMc20.out; omega); intro v421 w21 ho hb hg hat; rw [← Ny420.out] at ho; have n0_ := aM hb; have n1_ := aM ho; clear HB; clear HO_3; have HB := n0_; have HO422 := n1_; clear n0_ n1_; clear ho hb hg hat))
      go_roundg kj2
      case measure => have := HK1.out; have := HJ2.out; omega
      case rel => exact ⟨(y420), (wrap64 ((ji13) + 1)), (by first | rfl | (simp; done) | (simp only [← hji13] <;> (first | rfl | simp)) | (simp [*]; done)), H', ⟨by have := HK1.out; have := HJ2.out; omega⟩, ⟨mQ HO422⟩, ⟨bQ⟩⟩
     replace c19 := Bool.eq_false_iff.mpr c19
     subst c19
     rw [if_neg (show ¬ (false = true) by decide)] at H
     refine iD H ?_ ?_<;>clear H<;>intro H c22b0
     rotate_left
     ·exact absurd H (by simp)
     refine iD H ?_ ?_<;>clear H<;>intro H c23b0
     rotate_left
     ·exact absurd H (by simp)
     refine iNc H ?_ ?_<;>clear H<;>intro H c25
     rotate_left
     ·exact absurd H (by simp)
     have LMc25 := aM c25
     clear c25
     obtain ⟨y423, hy423⟩ : ∃ y_ : List Int, y_ = (x3_1 ++ [bt a0 x4_1]) := ⟨_, rfl⟩
     replace H : (hornbookref03_Name.l0 kj2 a0 y423 ji8) = some r := by first | (rw [hy423]; with_reducible exact H) | (have H2_ := (Option.bind_some _ _).symm.trans H; rw [hy423]; with_reducible exact H2_) | (have H2_ := (Option.bind_some _ _).symm.trans H; with_reducible exact H2_) | with_reducible exact H | (rw [hy423]; exact H) | exact H
     have Ny423 := aM hy423
     clear hy423
     have H' := aM H
     clear H
     have p11 : 0 ≤ ((ji8) : Int) := of_decide_eq_true hQ
     have q11 : (ji8) < (a0.size : Int) := of_decide_eq_true hQ
     have hx11 := bt_at a0 (ji8)
     replace p11 := eq_true p11
     replace q11 := eq_true q11
     go_wp2_with (first | ((with_reducible refine gC 94 ?_); refine goesL_ (some 32) rfl rfl Tryz.func94 (by kernel_rfl) rfl #[.int .i64 (wrap64 (bt a0 (ji8)))] rfl (by (try simp only [List.map_toArray, List.map_cons, List.map_nil]); first | done | (simp only [hji8]; rfl) | rfl | (simp only [List.length_drop, List.length_take]; rfl)) ?_; (with_reducible refine (hornbookref01_Digit.calls kj2 (wrap64 (bt a0 (ji8))) t416 true _ A12.out).mono ?_); rintro e w' ⟨rfl, ⟨nd, rfl⟩⟩; refine ⟨_, rfl, ?_⟩; have p16 : 0 ≤ ((ji13) : Int) := of_decide_eq_true hQ; have q16 : (ji13) < (a0.size : Int) := of_decide_eq_true hQ; have hx16 := bt_at a0 (ji13); replace p16 := eq_true p16; replace q16 := eq_true q16) | ((with_reducible refine gC 94 ?_); refine goesL_ (some 41) rfl rfl Tryz.func94 (by kernel_rfl) rfl #[.int .i64 (wrap64 (bt a0 (ji13)))] rfl (by (try simp only [List.map_toArray, List.map_cons, List.map_nil]); first | done | (simp only [hji13]; rfl) | rfl | (simp only [List.length_drop, List.length_take]; rfl)) ?_; (with_reducible refine (hornbookref01_Digit.calls kj2 (wrap64 (bt a0 (ji13))) t418 false _ A17.out).mono ?_); rintro e w' ⟨rfl, ⟨nd, rfl⟩⟩; refine ⟨_, rfl, ?_⟩; have p24 : 0 ≤ (x4_1 : Int) := of_decide_eq_true hQ; have q24 : x4_1 < (a0.size : Int) := of_decide_eq_true hQ; have hx24 := bt_at a0 x4_1; replace p24 := eq_true p24; replace q24 := eq_true q24) | ((with_reducible refine gate_builtin (b := .append) (xs := #[.tmp 58, .tmp 62]) rfl ?_); (try (refine gate_guard (by rfl) ?_; dsimp only)); at_builtin; refine Kd.R_append (Kd.int .u8) (w0 := w) w.heap.size rfl (.tmp 58) (.tmp 62) 78 5 (.int .u8 0) 1 rfl Tryz.underlying78 info5 rfl (by decide) (by omega) u3 x3_1 (bt a0 x4_1) [.int .u8 (bt a0 x4_1)] (fun _ => True) (fun _ => False) rfl rfl ?aP (fun _ hk => hk.elim) ?aF ?aO ?aB ?aS ?aL ?_; (case aP => exact rfl); (case aB => exact bQ); (case aF => exact (fun _ _ => trivial)); (case aO => exact (mQ HO_3)); (case aS => exact (below_size bQ)); (case aL => have := LMc25.out; omega); intro v424 w26 ho hb hg hat; rw [← Ny423.out] at ho; have n0_ := aM hb; have n1_ := aM ho; clear HB; clear HO_3; have HB := n0_; have HO425 := n1_; clear n0_ n1_; clear ho hb hg hat))
     go_roundg kj2
     case measure => have := HK1.out; have := HJ2.out; omega
     case rel => exact ⟨(y423), (ji8), (by first | rfl | (simp; done) | (simp only [← hji8] <;> (first | rfl | simp)) | (simp [*]; done)), H', ⟨by have := HK1.out; have := HJ2.out; omega⟩, ⟨mQ HO425⟩, ⟨bQ⟩⟩
end Go.Proofs.YtdcldaknmenklaaGreatDoor.M
end
section
/- Laid by this session's program hbprint.py out of the translation: the function hornbook/hornbookref01.UnHex and its contract. -/
namespace Go.Proofs.YtdcldaknmenklaaGreatDoor.M
open Go.RowKit Go.Proofs.YtdcldaknmenklaaGreatDoorW.PrintWords Go.Proofs.YtdcldaknmenklaaGreatDoorW.PrintLast Go.Proofs.YtdcldaknmenklaaGreatDoorW.PrintMore
attribute [local go_sem] max2_int min2_int max_two min_two max_three min_three max_four min_four
set_option linter.unusedVariables false
set_option linter.unusedSimpArgs false
mutual
def hornbookref01_UnHex.l0 : Nat → ByteArray → List Int → Int → Option (List Int × Int × Int)
 | 0, _, _, _ => none
 | k + 1, x0, x5, x6 => if x6 < (x0.size : Int) then (if 0 ≤ x6 then ((hornbookref01_Digit.f k (wrap64 (bt x0 x6))).bind fun bt432 => (if bt432.2 = true then (hornbookref01_UnHex.j1 k x0 x5 x6 bt432.1 bt432.2 false) else ((hornbookref01_White.f (wrap64 (bt x0 x6))).bind fun t434 => (hornbookref01_UnHex.j1 k x0 x5 x6 bt432.1 bt432.2 (!t434))))) else (none)) else (if ((x5.length : Int) % 2) = 1 then (if x5.length < 17592186044416 then (hornbookref01_UnHex.j2 k x0 (x5 ++ [0])) else (none)) else (hornbookref01_UnHex.j2 k x0 x5))
def hornbookref01_UnHex.j1 : Nat → ByteArray → List Int → Int → Int → Bool → Bool → Option (List Int × Int × Int)
 | 0, _, _, _, _, _, _ => none
 | k + 1, x0, x5, x6, x7, x8, x34 => if x34 = true then (some (([] : List Int), x6, 1)) else (if x8 = true then (if x5.length < 17592186044416 then (hornbookref01_UnHex.l0 k x0 (x5 ++ [x7]) (wrap64 (x6 + 1))) else (none)) else (hornbookref01_UnHex.l0 k x0 x5 (wrap64 (x6 + 1))))
def hornbookref01_UnHex.j2 : Nat → ByteArray → List Int → Option (List Int × Int × Int)
 | 0, _, _ => none
 | k + 1, x0, x5 => hornbookref01_UnHex.l1 k x0 x5 ([] : List Int) 0
def hornbookref01_UnHex.l1 : Nat → ByteArray → List Int → List Int → Int → Option (List Int × Int × Int)
 | 0, _, _, _, _ => none
 | k + 1, x0, x5, x9, x10 => if (wrap64 (x10 + 1)) < (x5.length : Int) then (if 0 ≤ x10 then (if x10 < (x5.length : Int) then (if 0 ≤ (wrap64 (x10 + 1)) then (if x9.length < 140737488355328 then (hornbookref01_UnHex.l1 k x0 x5 (x9 ++ [(wrap64 ((wrap64 (16 * (rd x5 x10))) + (rd x5 (wrap64 (x10 + 1))))) % 256]) (wrap64 (x10 + 2))) else (none)) else (none)) else (none)) else (none)) else (some (x9, (x0.size : Int), 0))
end
def hornbookref01_UnHex.f (k : Nat) (a0 : ByteArray) : Option (List Int × Int × Int) := hornbookref01_UnHex.l0 k a0 ([] : List Int) 0
def hornbookref01_UnHex.T16 : Bool × List (List Nat × List Nat) := (true, [([], []), ([], []), ([], []), ([1, 2], [1, 2]), ([3], [3]), ([4], [4]), ([], []), ([], []), ([7], [7]), ([6, 8], [6, 8]), ([9], [9]), ([5, 10], [5, 10]), ([11], [11]), ([12], [12]), ([0, 13], [0, 13]), ([14, 14, 0, 1, 2, 3, 4, 5, 6, 7, 8, 9, 10, 11, 12, 13, 14], [0, 14])])
def hornbookref01_UnHex.B16 : List Nat := [0, 0, 0, 6, 14, 30, 0, 0, 128, 448, 960, 2046, 4094, 8190, 16383, 32767]
theorem hornbookref01_UnHex.tab16 : rtab .any (opsOf Tryz.f95 16) = hornbookref01_UnHex.T16 := by kernel_rfl
theorem hornbookref01_UnHex.bits16 : waitsOk hornbookref01_UnHex.T16.2 hornbookref01_UnHex.B16 = true := by kernel_rfl
set_option maxHeartbeats 8000000 in
set_option maxRecDepth 100000 in
theorem hornbookref01_UnHex.calls (k : Nat) (a0 : ByteArray) (r1 : List Int) (r2 : Int) (r3 : Int) (w : World) (h : hornbookref01_UnHex.f k a0 = some (r1, r2, r3)) :
  Calls Tryz.prog 95 #[.string a0] w fun e w' => ∃ v0_ : Value, e = .returned (.tuple #[v0_, .int .i64 r2, .int .i64 r3]) ∧ Kd.R (Kd.int .u8) 5 w' w.heap.size (fun _ => True) v0_ r1 ∧ Below w.heap.size w w' := by
 have HB := aM (Below.refl w.heap.size w)
 have H : (hornbookref01_UnHex.l0 k a0 ([] : List Int) 0) = some (r1, r2, r3) := h
 clear h
 have H' := aM H
 clear H
 go_enter Tryz.func95, Tryz.ntmps95
 go_wp2
 go_loopg [5, 6] k (fun kq v5 v6 w' => ∃ (x5_1 : List Int) (x6_1 : Int), v6 = .int .i64 x6_1 ∧ Aside0 (hornbookref01_UnHex.l0 kq a0 x5_1 x6_1 = some (r1, r2, r3)) ∧ Aside0 (kq ≤ k) ∧ Aside0 (Kd.R (Kd.int .i64) 3 w' w.heap.size (fun _ => True) v5 x5_1) ∧ Aside0 (Below w.heap.size w w'))
 case atStart => exact ⟨(([] : List Int)), (0), vQ, H', ⟨Nat.le_refl _⟩, ⟨by first | exact Kd.R_nil _ _ _ _ _ | exact Kd.N_nil _ _ _ _ _ | exact Kd.V_nil _ _ _ _ _ | exact Kd.Q_nil _ _ _ _ _ | exact Kd.S_nil _ _ _ _ _⟩, ⟨bQ⟩⟩
 case round =>
  clear H'
  obtain ⟨x5_1, x6_1, rfl, HA, HK1, HO_5, HB⟩ := hrel
  cases gk with
  | zero => exact absurd HA.out (by simp [hornbookref01_UnHex.l0])
  | succ k1 =>
   have H := HA.out
   clear HA
   simp only [hornbookref01_UnHex.l0] at H
   refine iD H ?_ ?_<;>clear H<;>intro H c2b0
   ·refine iD H ?_ ?_<;>clear H<;>intro H c3b0
    rotate_left
    ·exact absurd H (by simp)
    replace H := bS H
    obtain ⟨⟨t432, t433⟩, A5, H⟩ := H
    try dsimp only at H
    have HC6 := aM H
    clear H
    have p4 : 0 ≤ (x6_1 : Int) := of_decide_eq_true hQ
    have q4 : x6_1 < (a0.size : Int) := of_decide_eq_true hQ
    have hx4 := bt_at a0 x6_1
    replace p4 := eq_true p4
    replace q4 := eq_true q4
    go_upto_region 6 with (first | ((with_reducible refine gC 94 ?_); refine gL (some 22) Tryz.func94 #[.int .i64 (wrap64 (bt a0 x6_1))] ?_; (with_reducible refine (hornbookref01_Digit.calls k1 (wrap64 (bt a0 x6_1)) t432 t433 _ A5.out).mono ?_); rintro e w' ⟨rfl, ⟨nd, rfl⟩⟩; refine ⟨_, rfl, ?_⟩))
    (try simp only [Act.put, List.setIfInBounds_toArray, List.set_cons_zero, List.set_cons_succ])
    go_cut [34] (fun v34 wc => ∃ (kq : Nat) (x34_5 : Bool), v34 = .bool x34_5 ∧ Aside0 (hornbookref01_UnHex.j1 kq a0 x5_1 x6_1 t432 t433 x34_5 = some (r1, r2, r3)) ∧ Aside0 (kq ≤ k1) ∧ Aside0 (Kd.R (Kd.int .i64) 3 wc w.heap.size (fun _ => True) u5 x5_1) ∧ Aside0 (Below w.heap.size w wc))
    case first =>
     have H := HC6.out
     clear HC6
     by_cases c7 : t433 = true
     ·subst c7
      rw [if_pos rfl] at H
      have H' := aM H
      clear H
      go_wp2
      go_meet
      case rel => exact ⟨_, (false), vQ, H', ⟨by have := HK1.out; first | omega | exact Nat.le_refl _⟩, ⟨mQ HO_5⟩, ⟨bQ⟩⟩
     replace c7 := Bool.eq_false_iff.mpr c7
     subst c7
     rw [if_neg (show ¬ (false = true) by decide)] at H
     replace H := bS H
     obtain ⟨t434, A9, H⟩ := H
     try dsimp only at H
     have H' := aM H
     clear H
     have p8 : 0 ≤ (x6_1 : Int) := of_decide_eq_true hQ
     have q8 : x6_1 < (a0.size : Int) := of_decide_eq_true hQ
     have hx8 := bt_at a0 x6_1
     replace p8 := eq_true p8
     replace q8 := eq_true q8
     go_wp2_with (first | (go_at_call 72; (with_reducible refine (hornbookref01_White.calls (wrap64 (bt a0 x6_1)) t434 _ A9.out).mono ?_); rintro e w' ⟨rfl, ⟨nd, rfl⟩⟩))
     go_meet
     case rel => exact ⟨_, (!t434), vQ, H', ⟨by have := HK1.out; first | omega | exact Nat.le_refl _⟩, ⟨mQ HO_5⟩, ⟨bQ⟩⟩
    case rest =>
     clear HC6
     try clear c2
     try clear c2b0
     try clear p2
     try clear c3
     try clear c3b0
     try clear p4
     try clear q4
     try clear hx4
     try clear p6
     try clear c7
     try clear p8
     try clear q8
     try clear hx8
     try clear c9
     try clear p4
     try clear p8
     try clear q4
     try clear q8
     obtain ⟨kq, x34_5, rfl, HA, HJ5, HO_5, HB⟩ := hcut
     cases kq with
     | zero => exact absurd HA.out (by simp [hornbookref01_UnHex.j1])
     | succ kj5 =>
      have H := HA.out
      clear HA
      simp only [hornbookref01_UnHex.j1] at H
      by_cases c10 : x34_5 = true
      ·subst c10
       rw [if_pos rfl] at H
       simp only [Option.some.injEq, Prod.mk.injEq] at H
       obtain ⟨rfl, rfl, rfl⟩ := H
       go_wp2
       go_ret3
       exact ⟨_, eQ, by first | exact Kd.R_nil _ _ _ _ _ | exact Kd.N_nil _ _ _ _ _ | exact Kd.V_nil _ _ _ _ _ | exact Kd.Q_nil _ _ _ _ _ | exact Kd.S_nil _ _ _ _ _, bQ⟩
      replace c10 := Bool.eq_false_iff.mpr c10
      subst c10
      rw [if_neg (show ¬ (false = true) by decide)] at H
      by_cases c11 : t433 = true
      rotate_left
      ·replace c11 := Bool.eq_false_iff.mpr c11
       subst c11
       rw [if_neg (show ¬ (false = true) by decide)] at H
       have H' := aM H
       clear H
       go_wp2
       go_roundg kj5
       case measure => have := HK1.out; have := HJ5.out; omega
       case rel => exact ⟨(x5_1), (wrap64 (x6_1 + 1)), vQ, H', ⟨by have := HK1.out; have := HJ5.out; omega⟩, ⟨mQ HO_5⟩, ⟨bQ⟩⟩
      subst c11
      rw [if_pos rfl] at H
      refine iNc H ?_ ?_<;>clear H<;>intro H c12
      rotate_left
      ·exact absurd H (by simp)
      have LMc12 := aM c12
      clear c12
      obtain ⟨y435, hy435⟩ : ∃ y_ : List Int, y_ = (x5_1 ++ [t432]) := ⟨_, rfl⟩
      replace H : (hornbookref01_UnHex.l0 kj5 a0 y435 (wrap64 (x6_1 + 1))) = some (r1, r2, r3) := by first | (rw [hy435]; with_reducible exact H) | (have H2_ := (Option.bind_some _ _).symm.trans H; rw [hy435]; with_reducible exact H2_) | (have H2_ := (Option.bind_some _ _).symm.trans H; with_reducible exact H2_) | with_reducible exact H | (rw [hy435]; exact H) | exact H
      have Ny435 := aM hy435
      clear hy435
      have H' := aM H
      clear H
      go_wp2_with (first | ((with_reducible refine gate_builtin (b := .append) (xs := #[.tmp 37, .tmp 39]) rfl ?_); at_builtin; refine Kd.R_append (Kd.int .i64) (w0 := w) w.heap.size rfl (.tmp 37) (.tmp 39) 140 3 (.int .i64 0) 8 rfl Tryz.underlying140 info3 rfl (by decide) (by omega) u5 x5_1 t432 [.int .i64 t432] (fun _ => True) (fun _ => False) rfl rfl ?aP (fun _ hk => hk.elim) ?aF ?aO ?aB ?aS ?aL ?_; (case aP => exact rfl); (case aB => exact bQ); (case aF => exact (fun _ _ => trivial)); (case aO => exact (mQ HO_5)); (case aS => exact (below_size bQ)); (case aL => have := LMc12.out; omega); intro v436 w13 ho hb hg hat; rw [← Ny435.out] at ho; have n0_ := aM hb; have n1_ := aM ho; clear HB; clear HO_5; have HB := n0_; have HO437 := n1_; clear n0_ n1_; clear ho hb hg hat))
      go_roundg kj5
      case measure => have := HK1.out; have := HJ5.out; omega
      case rel => exact ⟨(y435), (wrap64 (x6_1 + 1)), vQ, H', ⟨by have := HK1.out; have := HJ5.out; omega⟩, ⟨mQ HO437⟩, ⟨bQ⟩⟩
   have HC14 := aM H
   clear H
   obtain ⟨Ao15, co15, eo15⟩ := Kd.R_slice HO_5.out
   subst eo15
   go_upto_if 44 with (fail)
   go_cut [5] (fun v5 wc => ∃ (kq : Nat) (x5_13 : List Int), Aside0 (hornbookref01_UnHex.j2 kq a0 x5_13 = some (r1, r2, r3)) ∧ Aside0 (kq ≤ k1) ∧ Aside0 (Kd.R (Kd.int .i64) 3 wc w.heap.size (fun _ => True) v5 x5_13) ∧ Aside0 (Below w.heap.size w wc))
   case first =>
    have H := HC14.out
    clear HC14
    refine iEc H ?_ ?_<;>clear H<;>intro H c16b0 c16b1 c16
    rotate_left
    ·(first | rw [c16b0] | (simp only [i64_w, i32_w]; rw [c16b0]) | skip)
     have H' := aM H
     clear H
     go_wp2
     go_meet
     case rel => exact ⟨_, (x5_1), H', ⟨by have := HK1.out; first | omega | exact Nat.le_refl _⟩, ⟨mQ HO_5⟩, ⟨bQ⟩⟩
    clear c16
    (first | rw [c16b0] | (simp only [i64_w, i32_w]; rw [c16b0]) | skip)
    refine iNc H ?_ ?_<;>clear H<;>intro H c17
    rotate_left
    ·exact absurd H (by simp)
    have LMc17 := aM c17
    clear c17
    obtain ⟨y438, hy438⟩ : ∃ y_ : List Int, y_ = (x5_1 ++ [0]) := ⟨_, rfl⟩
    replace H : (hornbookref01_UnHex.j2 k1 a0 y438) = some (r1, r2, r3) := by first | (rw [hy438]; with_reducible exact H) | (have H2_ := (Option.bind_some _ _).symm.trans H; rw [hy438]; with_reducible exact H2_) | (have H2_ := (Option.bind_some _ _).symm.trans H; with_reducible exact H2_) | with_reducible exact H | (rw [hy438]; exact H) | exact H
    have Ny438 := aM hy438
    clear hy438
    have H' := aM H
    clear H
    go_wp2_with (first | ((with_reducible refine gate_builtin (b := .append) (xs := #[.tmp 45, .tmp 46]) rfl ?_); at_builtin; refine Kd.R_append (Kd.int .i64) (w0 := w) w.heap.size rfl (.tmp 45) (.tmp 46) 140 3 (.int .i64 0) 8 rfl Tryz.underlying140 info3 rfl (by decide) (by omega) (.slice Ao15 x5_1.length co15) x5_1 0 [.int .i64 0] (fun _ => True) (fun _ => False) rfl rfl ?aP (fun _ hk => hk.elim) ?aF ?aO ?aB ?aS ?aL ?_; (case aP => exact rfl); (case aB => exact bQ); (case aF => exact (fun _ _ => trivial)); (case aO => exact (mQ HO_5)); (case aS => exact (below_size bQ)); (case aL => have := LMc17.out; omega); intro v439 w18 ho hb hg hat; rw [← Ny438.out] at ho; have n0_ := aM hb; have n1_ := aM ho; clear HB; clear HO_5; have HB := n0_; have HO440 := n1_; clear n0_ n1_; clear ho hb hg hat))
    go_meet
    case rel => exact ⟨_, (y438), H', ⟨by have := HK1.out; first | omega | exact Nat.le_refl _⟩, ⟨mQ HO440⟩, ⟨bQ⟩⟩
   case rest =>
    clear HC14
    try clear c1
    try clear c2
    try clear c2b0
    try clear p2
    try clear c3
    try clear c3b0
    try clear p4
    try clear q4
    try clear hx4
    try clear p6
    try clear c7
    try clear p8
    try clear q8
    try clear hx8
    try clear c9
    try clear c10
    try clear c11
    try clear c12
    try clear c16
    try clear c16b0
    try clear c16b1
    try clear c17
    try clear p2
    try clear p4
    try clear p6
    try clear p8
    try clear q4
    try clear q8
    obtain ⟨kq, x5_13, HA, HJ13, HO_5, HB⟩ := hcut
    cases kq with
    | zero => exact absurd HA.out (by simp [hornbookref01_UnHex.j2])
    | succ kj13 =>
     have H := HA.out
     clear HA
     simp only [hornbookref01_UnHex.j2] at H
     have H' := aM H
     clear H
     go_wp2
     go_loopg [9, 10] kj13 (fun kq v9 v10 w' => ∃ (x9_3 : List Int) (x10_3 : Int), v10 = .int .i64 x10_3 ∧ Aside0 (hornbookref01_UnHex.l1 kq a0 x5_13 x9_3 x10_3 = some (r1, r2, r3)) ∧ Aside0 (kq ≤ kj13) ∧ Aside0 (Kd.R (Kd.int .i64) 3 w' w.heap.size (fun _ => True) u5 x5_13) ∧ Aside0 (Kd.R (Kd.int .u8) 5 w' w.heap.size (fun _ => True) v9 x9_3) ∧ Aside0 (Below w.heap.size w w'))
     case atStart => exact ⟨(([] : List Int)), (0), vQ, H', ⟨Nat.le_refl _⟩, ⟨mQ HO_5⟩, ⟨by first | exact Kd.R_nil _ _ _ _ _ | exact Kd.N_nil _ _ _ _ _ | exact Kd.V_nil _ _ _ _ _ | exact Kd.Q_nil _ _ _ _ _ | exact Kd.S_nil _ _ _ _ _⟩, ⟨bQ⟩⟩
     case round =>
      clear H'
      try clear c1
      try clear c2
      try clear c2b0
      try clear p2
      try clear c3
      try clear c3b0
      try clear p4
      try clear q4
      try clear hx4
      try clear p6
      try clear c7
      try clear p8
      try clear q8
      try clear hx8
      try clear c9
      try clear c10
      try clear c11
      try clear c12
      try clear c16
      try clear c16b0
      try clear c16b1
      try clear c17
      try clear p2
      try clear p4
      try clear p6
      try clear p8
      try clear q4
      try clear q8
      obtain ⟨x9_3, x10_3, rfl, HA, HK3, HO_5, HO_9, HB⟩ := hrel
      cases gk with
      | zero => exact absurd HA.out (by simp [hornbookref01_UnHex.l1])
      | succ k3 =>
       have H := HA.out
       clear HA
       simp only [hornbookref01_UnHex.l1] at H
       refine iD H ?_ ?_<;>clear H<;>intro H c19b0
       rotate_left
       ·simp only [Option.some.injEq, Prod.mk.injEq] at H
        obtain ⟨rfl, rfl, rfl⟩ := H
        obtain ⟨Ao28, co28, eo28⟩ := Kd.R_slice HO_5.out
        subst eo28
        go_wp2
        go_ret3
        exact ⟨_, eQ, mQ HO_9, bQ⟩
       refine iD H ?_ ?_<;>clear H<;>intro H c20b0
       rotate_left
       ·exact absurd H (by simp)
       refine iD H ?_ ?_<;>clear H<;>intro H c21b0
       rotate_left
       ·exact absurd H (by simp)
       obtain ⟨ji22, hji22⟩ : ∃ j_ : Int, (wrap64 (x10_3 + 1)) = j_ := ⟨_, rfl⟩
       replace H : (if 0 ≤ (ji22) then (if x9_3.length < 140737488355328 then (hornbookref01_UnHex.l1 k3 a0 x5_13 (x9_3 ++ [(wrap64 ((wrap64 (16 * (rd x5_13 x10_3))) + (rd x5_13 (ji22)))) % 256]) (wrap64 (x10_3 + 2))) else (none)) else (none)) = some (r1, r2, r3) := by first | (rw [hji22] at H; exact H) | (simp only [hji22] at H ⊢; exact H)
       (try rw [hji22] at c19b0)
       have hji22w : (IntKind.i64.wrap (x10_3 + 1)) = ji22 := (i64_w _).trans hji22
       refine iD H ?_ ?_<;>clear H<;>intro H c23b0
       rotate_left
       ·exact absurd H (by simp)
       refine iNc H ?_ ?_<;>clear H<;>intro H c24
       rotate_left
       ·exact absurd H (by simp)
       have LMc24 := aM c24
       clear c24
       obtain ⟨y443, hy443⟩ : ∃ y_ : List Int, y_ = (x9_3 ++ [(wrap64 ((wrap64 (16 * (rd x5_13 x10_3))) + (rd x5_13 (ji22)))) % 256]) := ⟨_, rfl⟩
       replace H : (hornbookref01_UnHex.l1 k3 a0 x5_13 y443 (wrap64 (x10_3 + 2))) = some (r1, r2, r3) := by first | (rw [hy443]; with_reducible exact H) | (have H2_ := (Option.bind_some _ _).symm.trans H; rw [hy443]; with_reducible exact H2_) | (have H2_ := (Option.bind_some _ _).symm.trans H; with_reducible exact H2_) | with_reducible exact H | (rw [hy443]; exact H) | exact H
       have Ny443 := aM hy443
       clear hy443
       have H' := aM H
       clear H
       obtain ⟨Ao25, co25, eo25⟩ := Kd.R_slice HO_5.out
       subst eo25
       try go_wp2
       have n0_ := aM (Kd.R_drew HO_5.out)
       have n1_ := aM (Kd.R_drew HO_9.out)
       have n2_ := aM (below_drew1 HB.out)
       clear HO_5
       clear HO_9
       clear HB
       have HO_5 := n0_
       have HO_9 := n1_
       have HB := n2_
       clear n0_ n1_ n2_
       have p441 : 0 ≤ (x10_3 : Int) := of_decide_eq_true hQ
       have q441 : x10_3 < (x5_13.length : Int) := of_decide_eq_true hQ
       obtain ⟨ad441, e441, hx441_0⟩ := Kd.at_int (Kd.R_reads' HO_5.out).2.2 x10_3 p441 q441
       cases e441
       replace p441 := eq_true p441
       replace q441 := eq_true q441
       have p442 : 0 ≤ ((ji22) : Int) := of_decide_eq_true hQ
       have q442 : (ji22) < (x5_13.length : Int) := of_decide_eq_true hQ
       obtain ⟨ad442, e442, hx442_0⟩ := Kd.at_int (Kd.R_reads' HO_5.out).2.2 (ji22) p442 q442
       obtain rfl : ad441 = ad442 := (by injection e442)
       replace p442 := eq_true p442
       replace q442 := eq_true q442
       refine start_ (n := 16) (S := fun w' => w'.cell? (ad441.add (x10_3).toNat) = some (.int .i64 (rd x5_13 x10_3)) ∧ w'.cell? (ad441.add ((ji22)).toNat) = some (.int .i64 (rd x5_13 (ji22)))) (ds := [13, 14]) #[false, false, false, false, false, false, false, false, false, false, false, false, false, false, false, false] (by kernel_rfl) rfl rfl ⟨hx441_0, hx442_0⟩ (fun hHeld => ?_); refine with_tabW hornbookref01_UnHex.tab16 hornbookref01_UnHex.bits16 (fun HT_ HW_ => ?_)
       generalize wr.drew = w26 at HO_5 HO_9 HB hx441_0 hx442_0 hHeld ⊢
       refine pure_ (i := 0) (N := some 55) (v := ?_) (a' := ?_) #[true, false, false, false, false, false, false, false, false, false, false, false, false, false, false, false] rfl rfl (any_of HT_.out (by kernel_rfl)) (fun _ _ _ h => h) (Or.inl ⟨by rfl, ?_⟩) ?_ ?_
       rotate_left
       ·intro w'
        go_simp
        with_reducible rfl
       rotate_left
       ·simp only [Act.put, List.setIfInBounds_toArray, List.set_cons_zero, List.set_cons_succ, i64_w, i32_w]
        rfl
       refine pure_ (i := 1) (N := some 56) (v := ?_) (a' := ?_) #[true, true, false, false, false, false, false, false, false, false, false, false, false, false, false, false] rfl rfl (any_of HT_.out (by kernel_rfl)) (fun _ _ _ h => h) (Or.inl ⟨by rfl, ?_⟩) ?_ ?_
       rotate_left
       ·intro w'
        go_simp
        with_reducible rfl
       rotate_left
       ·simp only [Act.put, List.setIfInBounds_toArray, List.set_cons_zero, List.set_cons_succ, i64_w, i32_w]
        rfl
       refine pure_ (i := 2) (N := some 57) (v := ?_) (a' := ?_) #[true, true, true, false, false, false, false, false, false, false, false, false, false, false, false, false] rfl rfl (any_of HT_.out (by kernel_rfl)) (fun _ _ _ h => h) (Or.inl ⟨by rfl, ?_⟩) ?_ ?_
       rotate_left
       ·intro w'
        go_simp
        with_reducible rfl
       rotate_left
       ·simp only [Act.put, List.setIfInBounds_toArray, List.set_cons_zero, List.set_cons_succ, i64_w, i32_w]
        rfl
       refine pure_ (i := 3) (N := some 58) (v := ?_) (a' := ?_) #[true, true, true, true, false, false, false, false, false, false, false, false, false, false, false, false] rfl rfl (any_of HT_.out (by kernel_rfl)) (fun _ _ _ h => h) (Or.inl ⟨by rfl, ?_⟩) ?_ ?_
       rotate_left
       ·intro w'
        go_simp
        with_reducible rfl
       rotate_left
       ·simp only [Act.put, List.setIfInBounds_toArray, List.set_cons_zero, List.set_cons_succ, i64_w, i32_w]
        rfl
       refine pure_ (i := 6) (N := some 61) (v := ?_) (a' := ?_) #[true, true, true, true, false, false, true, false, false, false, false, false, false, false, false, false] rfl rfl (any_of HT_.out (by kernel_rfl)) (fun _ _ _ h => h) (Or.inl ⟨by rfl, ?_⟩) ?_ ?_
       rotate_left
       ·intro w'
        go_simp
        with_reducible rfl
       rotate_left
       ·simp only [Act.put, List.setIfInBounds_toArray, List.set_cons_zero, List.set_cons_succ, i64_w, i32_w]
        rfl
       refine pure_ (i := 7) (N := some 62) (v := ?_) (a' := ?_) #[true, true, true, true, false, false, true, true, false, false, false, false, false, false, false, false] rfl rfl (any_of HT_.out (by kernel_rfl)) (fun _ _ _ h => h) (Or.inl ⟨by rfl, ?_⟩) ?_ ?_
       rotate_left
       ·intro w'
        go_simp
        with_reducible rfl
       rotate_left
       ·simp only [Act.put, List.setIfInBounds_toArray, List.set_cons_zero, List.set_cons_succ, i64_w, i32_w]
        rfl
       refine pure_ (i := 8) (N := some 63) (v := ?_) (a' := ?_) #[true, true, true, true, false, false, true, true, true, false, false, false, false, false, false, false] rfl rfl (any_of HT_.out (by kernel_rfl)) (fun _ _ _ h => h) (Or.inl ⟨by rfl, ?_⟩) ?_ ?_
       rotate_left
       ·intro w'
        go_simp
        with_reducible rfl
       rotate_left
       ·simp only [Act.put, List.setIfInBounds_toArray, List.set_cons_zero, List.set_cons_succ, i64_w, i32_w]
        rfl
       refine pure_ (i := 9) (N := some 64) (v := ?_) (a' := ?_) #[true, true, true, true, false, false, true, true, true, true, false, false, false, false, false, false] rfl rfl (any_of HT_.out (by kernel_rfl)) (fun _ _ _ h => h) (Or.inl ⟨by rfl, ?_⟩) ?_ ?_
       rotate_left
       ·intro w'
        go_simp
        with_reducible rfl
       rotate_left
       ·simp only [Act.put, List.setIfInBounds_toArray, List.set_cons_zero, List.set_cons_succ, i64_w, i32_w]
        rfl
       refine take_ (i := 4) (N := some 59) (v := ?_) (a' := ?_) #[true, true, true, true, true, false, true, true, true, true, false, false, false, false, false, false] rfl rfl (take_ofW HT_.out HW_.out (by kernel_rfl)) (fun _ _ _ h => h) (Or.inl ⟨by rfl, ?_⟩) hHeld ?_ ?_
       rotate_left
       ·rintro w' ⟨s0, s1⟩
        go_simp
        with_reducible rfl
       rotate_left
       ·simp only [Act.put, List.setIfInBounds_toArray, List.set_cons_zero, List.set_cons_succ, i64_w, i32_w]
        rfl
       refine pure_ (i := 5) (N := some 60) (v := ?_) (a' := ?_) #[true, true, true, true, true, true, true, true, true, true, false, false, false, false, false, false] rfl rfl (any_of HT_.out (by kernel_rfl)) (fun _ _ _ h => h) (Or.inl ⟨by rfl, ?_⟩) ?_ ?_
       rotate_left
       ·intro w'
        go_simp
        with_reducible rfl
       rotate_left
       ·simp only [Act.put, List.setIfInBounds_toArray, List.set_cons_zero, List.set_cons_succ, i64_w, i32_w]
        rfl
       refine take_ (i := 10) (N := some 65) (v := ?_) (a' := ?_) #[true, true, true, true, true, true, true, true, true, true, true, false, false, false, false, false] rfl rfl (take_ofW HT_.out HW_.out (by kernel_rfl)) (fun _ _ _ h => h) (Or.inl ⟨by rfl, ?_⟩) hHeld ?_ ?_
       rotate_left
       ·rintro w' ⟨s0, s1⟩
        go_simp
        with_reducible rfl
       rotate_left
       ·simp only [Act.put, List.setIfInBounds_toArray, List.set_cons_zero, List.set_cons_succ, i64_w, i32_w]
        rfl
       refine pure_ (i := 11) (N := some 66) (v := ?_) (a' := ?_) #[true, true, true, true, true, true, true, true, true, true, true, true, false, false, false, false] rfl rfl (any_of HT_.out (by kernel_rfl)) (fun _ _ _ h => h) (Or.inl ⟨by rfl, ?_⟩) ?_ ?_
       rotate_left
       ·intro w'
        go_simp
        with_reducible rfl
       rotate_left
       ·simp only [Act.put, List.setIfInBounds_toArray, List.set_cons_zero, List.set_cons_succ, i64_w, i32_w]
        rfl
       refine pure_ (i := 12) (N := some 67) (v := ?_) (a' := ?_) #[true, true, true, true, true, true, true, true, true, true, true, true, true, false, false, false] rfl rfl (any_of HT_.out (by kernel_rfl)) (fun _ _ _ h => h) (Or.inl ⟨by rfl, ?_⟩) ?_ ?_
       rotate_left
       ·intro w'
        go_simp
        with_reducible rfl
       rotate_left
       ·simp only [Act.put, List.setIfInBounds_toArray, List.set_cons_zero, List.set_cons_succ, i64_w, i32_w]
        rfl
       refine last_ (i := 13) (N := some 68) #[true, true, true, true, true, true, true, true, true, true, true, true, true, true, false, false] rfl rfl (one_of HT_.out (by kernel_rfl)) (by decide) (fun K hK => ?_)
       refine value_ (w1 := ?_) (v := ?_) (by rfl) rfl ?_ ?_
       rotate_left 2
       ·go_simp
        constructor
        ·rfl
        ·rfl
       refine hK.out _ _ ?_
       clear hK K
       refine norm_ (a' := ?_) ?_ ?_
       rotate_left
       ·show Act.put _ (some 68) _ = _
        simp only [Act.put, List.setIfInBounds_toArray, List.set_cons_zero, List.set_cons_succ, i64_w, i32_w]
        rfl
       refine last_ (i := 14) (N := some 69) #[true, true, true, true, true, true, true, true, true, true, true, true, true, true, true, false] rfl rfl (one_of HT_.out (by kernel_rfl)) (by decide) (fun K hK => ?_)
       refine Kd.R_append_step (Kd.int .u8) (w0 := w) w.heap.size (by rfl) (.tmp 55) (.tmp 68) 78 5 (.int .u8 0) 1 rfl Tryz.underlying78 info5 rfl (by decide) (by omega) u9 x9_3 ((wrap64 ((wrap64 (16 * (rd x5_13 x10_3))) + (rd x5_13 (ji22)))) % 256) [.int .u8 ((wrap64 ((wrap64 (16 * (rd x5_13 x10_3))) + (rd x5_13 (ji22)))) % 256)] (fun _ => True) (fun _ => False) rfl rfl ?aP (fun _ hk => hk.elim) ?aF ?aO ?aB ?aS ?aL ?_
       (case aP => exact rfl)
       (case aB => exact bQ)
       (case aF => exact (fun _ _ => trivial))
       (case aO => exact (mQ HO_9))
       (case aS => exact (below_size bQ))
       (case aL => have := LMc24.out; omega)
       intro v444 w27 ho hb hg hat
       rw [← Ny443.out] at ho
       have n0_ := aM (Kd.R_over' (mQ HO_5) (Kd.R_typed (mQ HO_9)) (by decide) hg)
       have n1_ := aM (hb)
       have n2_ := aM (ho)
       clear HO_5
       clear HB
       clear HO_9
       have HO_5 := n0_
       have HB := n1_
       have HO445 := n2_
       clear n0_ n1_ n2_
       clear ho hb hg hat
       refine hK.out _ _ ?_
       clear hK K
       refine norm_ (a' := ?_) ?_ ?_
       rotate_left
       ·show Act.put _ (some 69) _ = _
        simp only [Act.put, List.setIfInBounds_toArray, List.set_cons_zero, List.set_cons_succ, i64_w, i32_w]
        rfl
       refine pure_ (i := 15) (N := some 9) (v := ?_) (a' := ?_) #[true, true, true, true, true, true, true, true, true, true, true, true, true, true, true, true] rfl rfl (any_of HT_.out (by kernel_rfl)) (fun _ _ _ h => h) (Or.inl ⟨by rfl, ?_⟩) ?_ ?_
       rotate_left
       ·intro w'
        go_simp
        with_reducible rfl
       rotate_left
       ·simp only [Act.put, List.setIfInBounds_toArray, List.set_cons_zero, List.set_cons_succ, i64_w, i32_w]
        rfl
       refine done_ (done_of HT_.out (by kernel_rfl)) ?_
       try go_wp2
       go_roundg k3
       case measure => have := HK1.out; have := HJ13.out; have := HK3.out; omega
       case rel => exact ⟨(y443), (wrap64 (x10_3 + 2)), vQ, H', ⟨by have := HK1.out; have := HJ13.out; have := HK3.out; omega⟩, ⟨mQ HO_5⟩, ⟨mQ HO445⟩, ⟨bQ⟩⟩
end Go.Proofs.YtdcldaknmenklaaGreatDoor.M
end
section
/- Laid by this session's program hbprint.py out of the translation: the function hornbook/hornbookref04.hexed and its contract. -/
namespace Go.Proofs.YtdcldaknmenklaaGreatDoor.M
open Go.RowKit Go.Proofs.YtdcldaknmenklaaGreatDoorW.PrintWords Go.Proofs.YtdcldaknmenklaaGreatDoorW.PrintLast Go.Proofs.YtdcldaknmenklaaGreatDoorW.PrintMore
attribute [local go_sem] max2_int min2_int max_two min_two max_three min_three max_four min_four
set_option linter.unusedVariables false
set_option linter.unusedSimpArgs false
mutual
def hornbookref04_hexed.j1 : Nat → ByteArray → Int → Int → Option (Int × Int × Int × ByteArray × Int × Int)
 | 0, _, _, _ => none
 | k + 1, x0, x1, x7 => if x7 = (x0.size : Int) then ((hornbookref04_fail.f (x0.size : Int) 2).bind fun bt447 => (some (bt447.1, bt447.2.1, bt447.2.2.1, bt447.2.2.2.1, bt447.2.2.2.2.1, bt447.2.2.2.2.2))) else (if 0 ≤ (wrap64 (x1 + 1)) then (if (wrap64 (x1 + 1)) ≤ x7 then (if x7 ≤ (x0.size : Int) then ((hornbookref01_UnHex.f k (x0.extract ((wrap64 (x1 + 1)) : Int).toNat (x7 : Int).toNat)).bind fun bt453 => (if bt453.2.2 = 0 then (some (4, x1, 0, strOfNums bt453.1, wrap64 (x7 + 1), 0)) else ((hornbookref04_fail.f (wrap64 ((wrap64 (x1 + 1)) + bt453.2.1)) bt453.2.2).bind fun bt458 => (some (bt458.1, bt458.2.1, bt458.2.2.1, bt458.2.2.2.1, bt458.2.2.2.2.1, bt458.2.2.2.2.2))))) else (none)) else (none)) else (none))
def hornbookref04_hexed.l0 : Nat → ByteArray → Int → Int → Option (Int × Int × Int × ByteArray × Int × Int)
 | 0, _, _, _ => none
 | k + 1, x0, x1, x7 => if x7 < (x0.size : Int) then (if 0 ≤ x7 then (if (bt x0 x7) = 62 then (hornbookref04_hexed.j1 k x0 x1 x7) else (hornbookref04_hexed.l0 k x0 x1 (wrap64 (x7 + 1)))) else (none)) else (hornbookref04_hexed.j1 k x0 x1 x7)
end
def hornbookref04_hexed.f (k : Nat) (a0 : ByteArray) (a1 : Int) : Option (Int × Int × Int × ByteArray × Int × Int) := hornbookref04_hexed.l0 k a0 a1 (wrap64 (a1 + 1))
set_option maxHeartbeats 8000000 in
set_option maxRecDepth 100000 in
theorem hornbookref04_hexed.calls (k : Nat) (a0 : ByteArray) (a1 : Int) (r1 : Int) (r2 : Int) (r3 : Int) (r4 : ByteArray) (r5 : Int) (r6 : Int) (w : World) (h : hornbookref04_hexed.f k a0 a1 = some (r1, r2, r3, r4, r5, r6)) :
  Calls Tryz.prog 62 #[.string a0, .int .i64 a1] w fun e w' => e = .returned (.tuple #[.agg #[.int .i64 r1, .int .i64 r2, .int .i64 r3, .string r4], .int .i64 r5, .int .i64 r6]) ∧ Below w.heap.size w w' := by
 have hu65 := Tryz.underlying65
 have HB := aM (Below.refl w.heap.size w)
 have H : (hornbookref04_hexed.l0 k a0 a1 (wrap64 (a1 + 1))) = some (r1, r2, r3, r4, r5, r6) := h
 clear h
 have HC3 := aM H
 clear H
 go_enter Tryz.func62, Tryz.ntmps62
 go_upto_block 0 with (first | ((with_reducible refine gD 4 ?_); refine bE 4 (cs := #[.int .i64 0, .int .i64 0, .int .i64 0, .string (⟨#[]⟩ : ByteArray)]) (t := 65) ?_; intro gb446 hg w4 hbox hb; have BK446 := aM hbox; have GW446 := sG w hg; have GE446 := sG w hg; replace HB := sB hb; clear hb hbox hg))
 (try simp only [Act.put, List.setIfInBounds_toArray, List.set_cons_zero, List.set_cons_succ])
 go_cut [7] (fun v7 wc => ∃ (kq : Nat) (x7_2 : Int), v7 = .int .i64 x7_2 ∧ Aside0 (hornbookref04_hexed.j1 kq a0 a1 x7_2 = some (r1, r2, r3, r4, r5, r6)) ∧ Aside0 (kq ≤ k) ∧ Aside0 (wc.heap[gb446]? = some (.cells #[.int .i64 0, .int .i64 0, .int .i64 0, .string (⟨#[]⟩ : ByteArray)] 65 (0, 0))) ∧ Aside0 (Below w.heap.size w wc))
 case first =>
  have H := HC3.out
  clear HC3
  have H' := aM H
  clear H
  go_wp2
  go_loopg [7] k (fun kq v7 w' => ∃ (x7_1 : Int), v7 = .int .i64 x7_1 ∧ Aside0 (hornbookref04_hexed.l0 kq a0 a1 x7_1 = some (r1, r2, r3, r4, r5, r6)) ∧ Aside0 (kq ≤ k) ∧ Aside0 (w'.heap[gb446]? = some (.cells #[.int .i64 0, .int .i64 0, .int .i64 0, .string (⟨#[]⟩ : ByteArray)] 65 (0, 0))) ∧ Aside0 (Below w.heap.size w w'))
  case atStart => exact ⟨(wrap64 (a1 + 1)), vQ, H', ⟨Nat.le_refl _⟩, ⟨kQ⟩, ⟨bQ⟩⟩
  case round =>
   clear H'
   try clear p2
   obtain ⟨x7_1, rfl, HA, HK1, BK446, HB⟩ := hrel
   cases gk with
   | zero => exact absurd HA.out (by simp [hornbookref04_hexed.l0])
   | succ k1 =>
    have H := HA.out
    clear HA
    simp only [hornbookref04_hexed.l0] at H
    refine iD H ?_ ?_<;>clear H<;>intro H c5b0
    rotate_left
    ·(first | rw [c5b0] | (simp only [i64_w, i32_w]; rw [c5b0]) | skip)
     have H' := aM H
     clear H
     go_wp2
     go_meet
     case rel => exact ⟨_, (x7_1), vQ, H', ⟨by have := HK1.out; first | omega | exact Nat.le_refl _⟩, ⟨kQ⟩, ⟨bQ⟩⟩
    (first | rw [c5b0] | (simp only [i64_w, i32_w]; rw [c5b0]) | skip)
    refine iD H ?_ ?_<;>clear H<;>intro H c6b0
    rotate_left
    ·exact absurd H (by simp)
    refine iEc H ?_ ?_<;>clear H<;>intro H c8b0 c8b1 c8
    ·clear c8
     have H' := aM H
     clear H
     have p7 : 0 ≤ (x7_1 : Int) := of_decide_eq_true hQ
     have q7 : x7_1 < (a0.size : Int) := of_decide_eq_true hQ
     have hx7 := bt_at a0 x7_1
     replace p7 := eq_true p7
     replace q7 := eq_true q7
     go_wp2
     go_meet
     case rel => exact ⟨_, (x7_1), vQ, H', ⟨by have := HK1.out; first | omega | exact Nat.le_refl _⟩, ⟨kQ⟩, ⟨bQ⟩⟩
    have H' := aM H
    clear H
    have p7 : 0 ≤ (x7_1 : Int) := of_decide_eq_true hQ
    have q7 : x7_1 < (a0.size : Int) := of_decide_eq_true hQ
    have hx7 := bt_at a0 x7_1
    replace p7 := eq_true p7
    replace q7 := eq_true q7
    go_wp2
    go_roundg k1
    case measure => have := HK1.out; omega
    case rel => exact ⟨(wrap64 (x7_1 + 1)), vQ, H', ⟨by have := HK1.out; omega⟩, ⟨kQ⟩, ⟨bQ⟩⟩
 case rest =>
  clear HC3
  try clear p2
  try clear c5
  try clear c5b0
  try clear c6
  try clear c6b0
  try clear p6
  try clear p7
  try clear q7
  try clear hx7
  try clear c8
  try clear c8b0
  try clear c8b1
  try clear p2
  try clear p7
  try clear q7
  obtain ⟨kq, x7_2, rfl, HA, HJ2, BK446, HB⟩ := hcut
  cases kq with
  | zero => exact absurd HA.out (by simp [hornbookref04_hexed.j1])
  | succ kj2 =>
   have H := HA.out
   clear HA
   simp only [hornbookref04_hexed.j1] at H
   refine iEc H ?_ ?_<;>clear H<;>intro H c9b0 c9b1 c9
   ·clear c9
    replace H := bS H
    obtain ⟨⟨t447, t448, t449, t450, t451, t452⟩, A10, H⟩ := H
    try dsimp only at H
    simp only [Option.some.injEq, Prod.mk.injEq] at H
    obtain ⟨rfl, rfl, rfl, rfl, rfl, rfl⟩ := H
    go_wp2_with (first | ((with_reducible refine gC 58 ?_); refine gL (some 31) Tryz.func58 #[.int .i64 (a0.size : Int), .int .i64 2] ?_; (with_reducible refine cB (hornbookref04_fail.calls (a0.size : Int) 2 t447 t448 t449 t450 t451 t452 _ A10.out) ?_); intro w11 hb; replace BK446 := kK BK446 hb; replace HB := sB hb; clear hb; obtain ⟨hcz12_0, hcz12_1, hcz12_2, hcz12_3, hfz12_0, hfz12_1, hfz12_2, hfz12_3⟩ := b4 BK446))
    refine bodyPost_ret (results_ctt rfl _ _ gb446 65 #[.int .i64 t447, .int .i64 t448, .int .i64 t449, .string t450] (0, 0) _ rfl kQ Tryz.underlying65 rfl (by kernel_rfl)) rfl ?_
    exact ⟨eQ, bQ⟩
   obtain ⟨ji13, hji13⟩ : ∃ j_ : Int, (wrap64 (a1 + 1)) = j_ := ⟨_, rfl⟩
   replace H : (if 0 ≤ (ji13) then (if (ji13) ≤ x7_2 then (if x7_2 ≤ (a0.size : Int) then ((hornbookref01_UnHex.f kj2 (a0.extract ((ji13) : Int).toNat (x7_2 : Int).toNat)).bind fun bt453 => (if bt453.2.2 = 0 then (some (4, a1, 0, strOfNums bt453.1, wrap64 (x7_2 + 1), 0)) else ((hornbookref04_fail.f (wrap64 ((ji13) + bt453.2.1)) bt453.2.2).bind fun bt458 => (some (bt458.1, bt458.2.1, bt458.2.2.1, bt458.2.2.2.1, bt458.2.2.2.2.1, bt458.2.2.2.2.2))))) else (none)) else (none)) else (none)) = some (r1, r2, r3, r4, r5, r6) := by first | (rw [hji13] at H; exact H) | (simp only [hji13] at H ⊢; exact H)
   have hji13w : (IntKind.i64.wrap (a1 + 1)) = ji13 := (i64_w _).trans hji13
   refine iNc H ?_ ?_<;>clear H<;>intro H c14
   rotate_left
   ·exact absurd H (by simp)
   have c14b0 := eq_true c14
   have c14b1 : decide (0 ≤ (ji13)) = true := decide_eq_true c14
   clear c14
   refine iNc H ?_ ?_<;>clear H<;>intro H c15
   rotate_left
   ·exact absurd H (by simp)
   have c15b0 := eq_true c15
   have c15b1 : decide ((ji13) ≤ x7_2) = true := decide_eq_true c15
   clear c15
   refine iNc H ?_ ?_<;>clear H<;>intro H c16
   rotate_left
   ·exact absurd H (by simp)
   have c16b0 := eq_true c16
   have c16b1 : decide (x7_2 ≤ (a0.size : Int)) = true := decide_eq_true c16
   clear c16
   replace H := bS H
   obtain ⟨⟨t453, t454, t455⟩, A17, H⟩ := H
   try dsimp only at H
   refine iEc H ?_ ?_<;>clear H<;>intro H c18b0 c18b1 c18
   ·clear c18
    simp only [Option.some.injEq, Prod.mk.injEq] at H
    obtain ⟨rfl, rfl, rfl, rfl, rfl, rfl⟩ := H
    go_wp2_with (first | ((with_reducible refine gC 95 ?_); refine goesL_ (some 41) rfl rfl Tryz.func95 (by kernel_rfl) rfl #[.string (a0.extract ((ji13) : Int).toNat (x7_2 : Int).toNat)] rfl (by (try simp only [List.map_toArray, List.map_cons, List.map_nil]); first | done | (simp only [hji13]; rfl) | rfl | (simp only [List.length_drop, List.length_take]; rfl)) ?_; (with_reducible refine (hornbookref01_UnHex.calls kj2 (a0.extract ((ji13) : Int).toNat (x7_2 : Int).toNat) t453 t454 t455 _ A17.out).mono ?_); rintro e w19 ⟨v456, rfl, ho0, hb⟩; refine ⟨_, rfl, ?_⟩; have HO457 := lK ho0; replace BK446 := kK BK446 hb; replace HB := sB hb; clear hb ho0; have hcv20 := own_string (P := Tryz.prog) Tryz.underlying78 Tryz.underlying5 Tryz.underlying9 (Kd.own_of_R HO457.out); obtain ⟨hcz21_0, hcz21_1, hcz21_2, hcz21_3, hfz21_0, hfz21_1, hfz21_2, hfz21_3⟩ := b4 BK446))
    refine bodyPost_ret (results_ctt rfl _ _ gb446 65 #[.int .i64 4, .int .i64 a1, .int .i64 0, .string (strOfNums t453)] (0, 0) _ rfl kQ Tryz.underlying65 rfl (by kernel_rfl)) rfl ?_
    exact ⟨by first | rfl | (simp [errW_none, errW_some] <;> rfl) | (simp only [← hji13]; first | rfl | (simp [errW_none, errW_some] <;> rfl)) | (simp [*, errW_none, errW_some] <;> rfl), bQ⟩
   replace H := bS H
   obtain ⟨⟨t458, t459, t460, t461, t462, t463⟩, A22, H⟩ := H
   try dsimp only at H
   simp only [Option.some.injEq, Prod.mk.injEq] at H
   obtain ⟨rfl, rfl, rfl, rfl, rfl, rfl⟩ := H
   go_wp2_with (first | ((with_reducible refine gC 95 ?_); refine goesL_ (some 41) rfl rfl Tryz.func95 (by kernel_rfl) rfl #[.string (a0.extract ((ji13) : Int).toNat (x7_2 : Int).toNat)] rfl (by (try simp only [List.map_toArray, List.map_cons, List.map_nil]); first | done | (simp only [hji13]; rfl) | rfl | (simp only [List.length_drop, List.length_take]; rfl)) ?_; (with_reducible refine (hornbookref01_UnHex.calls kj2 (a0.extract ((ji13) : Int).toNat (x7_2 : Int).toNat) t453 t454 t455 _ A17.out).mono ?_); rintro e w23 ⟨v456, rfl, ho0, hb⟩; refine ⟨_, rfl, ?_⟩; have HO457 := lK ho0; replace BK446 := kK BK446 hb; replace HB := sB hb; clear hb ho0) | ((with_reducible refine gC 58 ?_); refine goesL_ (some 52) rfl rfl Tryz.func58 (by kernel_rfl) rfl #[.int .i64 (wrap64 ((ji13) + t454)), .int .i64 t455] rfl (by (try simp only [List.map_toArray, List.map_cons, List.map_nil]); first | done | (simp only [hji13]; rfl) | rfl | (simp only [List.length_drop, List.length_take]; rfl)) ?_; (with_reducible refine cB (hornbookref04_fail.calls (wrap64 ((ji13) + t454)) t455 t458 t459 t460 t461 t462 t463 _ A22.out) ?_); intro w24 hb; replace HO457 := rK HO457 hb; replace BK446 := kK BK446 hb; replace HB := sB hb; clear hb; obtain ⟨hcz25_0, hcz25_1, hcz25_2, hcz25_3, hfz25_0, hfz25_1, hfz25_2, hfz25_3⟩ := b4 BK446))
   refine bodyPost_ret (results_ctt rfl _ _ gb446 65 #[.int .i64 t458, .int .i64 t459, .int .i64 t460, .string t461] (0, 0) _ rfl kQ Tryz.underlying65 rfl (by kernel_rfl)) rfl ?_
   exact ⟨by first | rfl | (simp [errW_none, errW_some] <;> rfl) | (simp only [← hji13]; first | rfl | (simp [errW_none, errW_some] <;> rfl)) | (simp [*, errW_none, errW_some] <;> rfl), bQ⟩
end Go.Proofs.YtdcldaknmenklaaGreatDoor.M
end
section
namespace Go.Proofs.YtdcldaknmenklaaGreatDoor.M
open Go.RowKit Go.Proofs.YtdcldaknmenklaaGreatDoorW.PrintWords Go.Proofs.YtdcldaknmenklaaGreatDoorW.PrintLast Go.Proofs.YtdcldaknmenklaaGreatDoorW.PrintMore
attribute [local go_sem] max2_int min2_int max_two min_two max_three min_three max_four min_four
set_option linter.unusedVariables false
set_option linter.unusedSimpArgs false
def hornbookref04_octal.l0 : Nat → ByteArray → Int → Int → Int → Option (Int × Int)
 | 0, _, _, _, _ => none
 | k + 1, x0, x1, x6, x7 => if x7 < 3 then (if (wrap64 (x1 + x7)) < (x0.size : Int) then (if 0 ≤ (wrap64 (x1 + x7)) then (if (bt x0 (wrap64 (x1 + x7))) ≥ 48 then (if (bt x0 (wrap64 (x1 + x7))) ≤ 55 then (hornbookref04_octal.l0 k x0 x1 (wrap64 ((wrap64 (x6 * 8)) + (((bt x0 (wrap64 (x1 + x7))) - 48) % 256))) (wrap64 (x7 + 1))) else (some (Int.tmod x6 256, x7))) else (some (Int.tmod x6 256, x7))) else (none)) else (some (Int.tmod x6 256, x7))) else (some (Int.tmod x6 256, x7))
def hornbookref04_octal.f (k : Nat) (a0 : ByteArray) (a1 : Int) : Option (Int × Int) := hornbookref04_octal.l0 k a0 a1 0 0
set_option maxHeartbeats 8000000 in
set_option maxRecDepth 100000 in
theorem hornbookref04_octal.calls (k : Nat) (a0 : ByteArray) (a1 : Int) (r1 : Int) (r2 : Int) (w : World) (h : hornbookref04_octal.f k a0 a1 = some (r1, r2)) :
  Calls Tryz.prog 117 #[.string a0, .int .i64 a1] w fun e w' => e = .returned (.tuple #[.int .i64 r1, .int .i64 r2]) ∧ Drawn0 w w' := by
 have H : (hornbookref04_octal.l0 k a0 a1 0 0) = some (r1, r2) := h
 clear h
 have H' := aM H
 clear H
 go_enter Tryz.func117, Tryz.ntmps117
 go_wp2
 go_loopg [6, 7] k (fun kq v6 v7 w' => ∃ (x6_1 : Int) (x7_1 : Int), v6 = .int .i64 x6_1 ∧ v7 = .int .i64 x7_1 ∧ Aside0 (hornbookref04_octal.l0 kq a0 a1 x6_1 x7_1 = some (r1, r2)) ∧ Aside0 (kq ≤ k) ∧ Drawn0 w w')
 case atStart => exact ⟨(0), (0), vQ, vQ, H', ⟨Nat.le_refl _⟩, by repeat (first | exact Drawn0.refl _ | apply Drawn0.step)⟩
 case round =>
  clear H'
  try clear c1
  try clear p2
  obtain ⟨x6_1, x7_1, rfl, rfl, HA, HK1, ⟨m1, rfl⟩⟩ := hrel
  cases gk with
  | zero => exact absurd HA.out (by simp [hornbookref04_octal.l0])
  | succ k1 =>
   have H := HA.out
   clear HA
   simp only [hornbookref04_octal.l0] at H
   refine iD H ?_ ?_<;>clear H<;>intro H c3b0
   rotate_left
   ·simp only [Option.some.injEq, Prod.mk.injEq] at H
    obtain ⟨rfl, rfl⟩ := H
    go_wp2
    go_ret2
    exact ⟨by first | rfl | (simp; done) | (simp [*]; done), by repeat (first | exact Drawn0.refl _ | apply Drawn0.step)⟩
   refine iD H ?_ ?_<;>clear H<;>intro H c4b0
   rotate_left
   ·simp only [Option.some.injEq, Prod.mk.injEq] at H
    obtain ⟨rfl, rfl⟩ := H
    go_wp2
    go_ret2
    exact ⟨by first | rfl | (simp; done) | (simp [*]; done), by repeat (first | exact Drawn0.refl _ | apply Drawn0.step)⟩
   obtain ⟨ji5, hji5⟩ : ∃ j_ : Int, (wrap64 (a1 + x7_1)) = j_ := ⟨_, rfl⟩
   replace H : (if 0 ≤ (ji5) then (if (bt a0 (ji5)) ≥ 48 then (if (bt a0 (ji5)) ≤ 55 then (hornbookref04_octal.l0 k1 a0 a1 (wrap64 ((wrap64 (x6_1 * 8)) + (((bt a0 (ji5)) - 48) % 256))) (wrap64 (x7_1 + 1))) else (some (Int.tmod x6_1 256, x7_1))) else (some (Int.tmod x6_1 256, x7_1))) else (none)) = some (r1, r2) := by first | (rw [hji5] at H; exact H) | (simp only [hji5] at H ⊢; exact H)
   (try rw [hji5] at c4b0)
   have hji5w : (IntKind.i64.wrap (a1 + x7_1)) = ji5 := (i64_w _).trans hji5
   refine iD H ?_ ?_<;>clear H<;>intro H c6b0
   rotate_left
   ·exact absurd H (by simp)
   refine iNc H ?_ ?_<;>clear H<;>intro H c8
   rotate_left
   ·have c8b0 : decide (48 ≤ (bt a0 (ji5))) = false := decide_eq_false c8
    clear c8
    simp only [Option.some.injEq, Prod.mk.injEq] at H
    obtain ⟨rfl, rfl⟩ := H
    have p7 : 0 ≤ ((ji5) : Int) := of_decide_eq_true hQ
    have q7 : (ji5) < (a0.size : Int) := of_decide_eq_true hQ
    have hx7 := bt_at a0 (ji5)
    replace p7 := eq_true p7
    replace q7 := eq_true q7
    go_wp2
    go_ret2
    exact ⟨by first | rfl | (simp; done) | (simp only [← hji5] <;> (first | rfl | simp)) | (simp [*]; done), by repeat (first | exact Drawn0.refl _ | apply Drawn0.step)⟩
   have c8b0 : decide (48 ≤ (bt a0 (ji5))) = true := decide_eq_true c8
   clear c8
   refine iD H ?_ ?_<;>clear H<;>intro H c10b0
   rotate_left
   ·simp only [Option.some.injEq, Prod.mk.injEq] at H
    obtain ⟨rfl, rfl⟩ := H
    have p7 : 0 ≤ ((ji5) : Int) := of_decide_eq_true hQ
    have q7 : (ji5) < (a0.size : Int) := of_decide_eq_true hQ
    have hx7 := bt_at a0 (ji5)
    replace p7 := eq_true p7
    replace q7 := eq_true q7
    have p9 : 0 ≤ ((ji5) : Int) := of_decide_eq_true hQ
    have q9 : (ji5) < (a0.size : Int) := of_decide_eq_true hQ
    have hx9 := bt_at a0 (ji5)
    replace p9 := eq_true p9
    replace q9 := eq_true q9
    go_wp2
    go_ret2
    exact ⟨by first | rfl | (simp; done) | (simp only [← hji5] <;> (first | rfl | simp)) | (simp [*]; done), by repeat (first | exact Drawn0.refl _ | apply Drawn0.step)⟩
   have H' := aM H
   clear H
   have p7 : 0 ≤ ((ji5) : Int) := of_decide_eq_true hQ
   have q7 : (ji5) < (a0.size : Int) := of_decide_eq_true hQ
   have hx7 := bt_at a0 (ji5)
   replace p7 := eq_true p7
   replace q7 := eq_true q7
   have p9 : 0 ≤ ((ji5) : Int) := of_decide_eq_true hQ
   have q9 : (ji5) < (a0.size : Int) := of_decide_eq_true hQ
   have hx9 := bt_at a0 (ji5)
   replace p9 := eq_true p9
   replace q9 := eq_true q9
   have p11 : 0 ≤ ((ji5) : Int) := of_decide_eq_true hQ
   have q11 : (ji5) < (a0.size : Int) := of_decide_eq_true hQ
   have hx11 := bt_at a0 (ji5)
   replace p11 := eq_true p11
   replace q11 := eq_true q11
   go_wp2
   go_roundg k1
   case measure => have := HK1.out; omega
   case rel => exact ⟨(wrap64 ((wrap64 (x6_1 * 8)) + (((bt a0 (ji5)) - 48) % 256))), (wrap64 (x7_1 + 1)), (by first | rfl | (simp; done) | (simp only [← hji5] <;> (first | rfl | simp)) | (simp [*]; done)), vQ, H', ⟨by have := HK1.out; omega⟩, by repeat (first | exact Drawn0.refl _ | apply Drawn0.step)⟩
def hornbookref04_escaped.f (k : Nat) (a0 : ByteArray) (a1 : Int) : Option (List Int × Int) := if a1 ≥ (a0.size : Int) then (some (([] : List Int), 0)) else ((hornbookref04_octal.f k a0 a1).bind fun bt464 => (if bt464.2 > 0 then (some ((([(bt464.1) % 256] : List Int)), bt464.2)) else (if 0 ≤ a1 then (if a1 < (a0.size : Int) then (if (bt a0 a1) = 110 then (some ((([10] : List Int)), 1)) else (if (bt a0 a1) = 114 then (some ((([13] : List Int)), 1)) else (if (bt a0 a1) = 116 then (some ((([9] : List Int)), 1)) else (if (bt a0 a1) = 98 then (some ((([8] : List Int)), 1)) else (if (bt a0 a1) = 102 then (some ((([12] : List Int)), 1)) else (if (bt a0 a1) = 10 then (some (([] : List Int), 1)) else (if (bt a0 a1) = 13 then ((hornbookref04_is.f a0 (wrap64 (a1 + 1)) 10).bind fun t484 => (if t484 = true then (some (([] : List Int), 2)) else (some (([] : List Int), 1)))) else (some ((([bt a0 a1] : List Int)), 1))))))))) else (none)) else (none))))
set_option maxHeartbeats 8000000 in
set_option maxRecDepth 100000 in
theorem hornbookref04_escaped.calls (k : Nat) (a0 : ByteArray) (a1 : Int) (r1 : List Int) (r2 : Int) (w : World) (h : hornbookref04_escaped.f k a0 a1 = some (r1, r2)) :
  Calls Tryz.prog 96 #[.string a0, .int .i64 a1] w fun e w' => ∃ v0_ : Value, e = .returned (.tuple #[v0_, .int .i64 r2]) ∧ Kd.R (Kd.int .u8) 5 w' w.heap.size (fun _ => True) v0_ r1 ∧ Below w.heap.size w w' := by
 have HB := aM (Below.refl w.heap.size w)
 have H : (if a1 ≥ (a0.size : Int) then (some (([] : List Int), 0)) else ((hornbookref04_octal.f k a0 a1).bind fun bt464 => (if bt464.2 > 0 then (some ((([(bt464.1) % 256] : List Int)), bt464.2)) else (if 0 ≤ a1 then (if a1 < (a0.size : Int) then (if (bt a0 a1) = 110 then (some ((([10] : List Int)), 1)) else (if (bt a0 a1) = 114 then (some ((([13] : List Int)), 1)) else (if (bt a0 a1) = 116 then (some ((([9] : List Int)), 1)) else (if (bt a0 a1) = 98 then (some ((([8] : List Int)), 1)) else (if (bt a0 a1) = 102 then (some ((([12] : List Int)), 1)) else (if (bt a0 a1) = 10 then (some (([] : List Int), 1)) else (if (bt a0 a1) = 13 then ((hornbookref04_is.f a0 (wrap64 (a1 + 1)) 10).bind fun t484 => (if t484 = true then (some (([] : List Int), 2)) else (some (([] : List Int), 1)))) else (some ((([bt a0 a1] : List Int)), 1))))))))) else (none)) else (none))))) = some (r1, r2) := h
 clear h
 refine iNc H ?_ ?_<;>clear H<;>intro H c3
 ·have c3b0 : decide ((a0.size : Int) ≤ a1) = true := decide_eq_true c3
  clear c3
  simp only [Option.some.injEq, Prod.mk.injEq] at H
  obtain ⟨rfl, rfl⟩ := H
  go_enter Tryz.func96, Tryz.ntmps96
  go_wp2
  go_ret2
  exact ⟨_, eQ, by first | exact Kd.R_nil _ _ _ _ _ | exact Kd.N_nil _ _ _ _ _ | exact Kd.V_nil _ _ _ _ _ | exact Kd.Q_nil _ _ _ _ _ | exact Kd.S_nil _ _ _ _ _, bQ⟩
 have c3b0 : decide ((a0.size : Int) ≤ a1) = false := decide_eq_false c3
 clear c3
 replace H := bS H
 obtain ⟨⟨t464, t465⟩, A4, H⟩ := H
 try dsimp only at H
 refine iNc H ?_ ?_<;>clear H<;>intro H c5
 ·have c5b0 : decide (0 < t465) = true := decide_eq_true c5
  clear c5
  obtain ⟨y466, hy466⟩ : ∃ y_ : List Int, y_ = (([(t464) % 256] : List Int)) := ⟨_, rfl⟩
  replace H : (some (y466, t465)) = some (r1, r2) := by first | (rw [hy466]; with_reducible exact H) | (have H2_ := (Option.bind_some _ _).symm.trans H; rw [hy466]; with_reducible exact H2_) | (have H2_ := (Option.bind_some _ _).symm.trans H; with_reducible exact H2_) | with_reducible exact H | (rw [hy466]; exact H) | exact H
  have Ny466 := aM hy466
  clear hy466
  simp only [Option.some.injEq, Prod.mk.injEq] at H
  obtain ⟨rfl, rfl⟩ := H
  go_enter Tryz.func96, Tryz.ntmps96
  go_wp2_with (first | ((with_reducible refine gC 117 ?_); refine gL (some 15) Tryz.func117 #[.string a0, .int .i64 a1] ?_; (with_reducible refine (hornbookref04_octal.calls k a0 a1 t464 t465 _ A4.out).mono ?_); rintro e w' ⟨rfl, ⟨nd, rfl⟩⟩; refine ⟨_, rfl, ?_⟩) | ((with_reducible refine gD 22 ?_); refine Kd.R_lit (Kd.int .u8) _ 5 ?hg (N := 22) ?hd (xs := ([(t464) % 256] : List Int)) (inner := [.int .u8 ((t464) % 256)]) (ok := fun _ => True) (okp := fun _ => True) ?hr ?hp (fun _ hk => hk) trivial (Below.refl _ _) (Nat.le_refl _) (by simp) ?_; (case hd => rfl); (case hg => rfl); (case hr => first | (go_simp; done) | (go_simp; rfl)); (case hp => exact (Reps.one (show Kd.M (Kd.int .u8) _ _ _ ((t464) % 256) [.int .u8 ((t464) % 256)] from rfl) (Reps.none _ _))); intro v467 w6 ho7 hb hg_ hnew_; clear hg_ hnew_; (first | rw [← Ny466.out] at ho7 | (simp only [Int.reduceToNat] at ho7; rw [← Ny466.out] at ho7)); have HO468 := lK ho7; replace HB := sB hb; clear hb ho7))
  go_ret2
  exact ⟨_, eQ, mQ HO468, bQ⟩
 have c5b0 : decide (0 < t465) = false := decide_eq_false c5
 clear c5
 refine iD H ?_ ?_<;>clear H<;>intro H c8b0
 rotate_left
 ·exact absurd H (by simp)
 refine iD H ?_ ?_<;>clear H<;>intro H c9b0
 rotate_left
 ·exact absurd H (by simp)
 refine iEc H ?_ ?_<;>clear H<;>intro H c11b0 c11b1 c11
 ·clear c11
  obtain ⟨y469, hy469⟩ : ∃ y_ : List Int, y_ = (([10] : List Int)) := ⟨_, rfl⟩
  replace H : (some (y469, 1)) = some (r1, r2) := by first | (rw [hy469]; with_reducible exact H) | (have H2_ := (Option.bind_some _ _).symm.trans H; rw [hy469]; with_reducible exact H2_) | (have H2_ := (Option.bind_some _ _).symm.trans H; with_reducible exact H2_) | with_reducible exact H | (rw [hy469]; exact H) | exact H
  have Ny469 := aM hy469
  clear hy469
  simp only [Option.some.injEq, Prod.mk.injEq] at H
  obtain ⟨rfl, rfl⟩ := H
  go_enter Tryz.func96, Tryz.ntmps96
  go_wp2_with (first | ((with_reducible refine gC 117 ?_); refine gL (some 15) Tryz.func117 #[.string a0, .int .i64 a1] ?_; (with_reducible refine (hornbookref04_octal.calls k a0 a1 t464 t465 _ A4.out).mono ?_); rintro e w' ⟨rfl, ⟨nd, rfl⟩⟩; refine ⟨_, rfl, ?_⟩; have p10 : 0 ≤ (a1 : Int) := of_decide_eq_true hQ; have q10 : a1 < (a0.size : Int) := of_decide_eq_true hQ; have hx10 := bt_at a0 a1; replace p10 := eq_true p10; replace q10 := eq_true q10) | ((with_reducible refine gD 29 ?_); refine Kd.R_lit (Kd.int .u8) _ 5 ?hg (N := 29) ?hd (xs := ([10] : List Int)) (inner := [.int .u8 10]) (ok := fun _ => True) (okp := fun _ => True) ?hr ?hp (fun _ hk => hk) trivial (Below.refl _ _) (Nat.le_refl _) (by simp) ?_; (case hd => rfl); (case hg => rfl); (case hr => first | (go_simp; done) | (go_simp; rfl)); (case hp => exact (Reps.one (show Kd.M (Kd.int .u8) _ _ _ 10 [.int .u8 10] from rfl) (Reps.none _ _))); intro v470 w12 ho13 hb hg_ hnew_; clear hg_ hnew_; (first | rw [← Ny469.out] at ho13 | (simp only [Int.reduceToNat] at ho13; rw [← Ny469.out] at ho13)); have HO471 := lK ho13; replace HB := sB hb; clear hb ho13))
  go_ret2
  exact ⟨_, eQ, mQ HO471, bQ⟩
 refine iEc H ?_ ?_<;>clear H<;>intro H c14b0 c14b1 c14
 ·clear c14
  obtain ⟨y472, hy472⟩ : ∃ y_ : List Int, y_ = (([13] : List Int)) := ⟨_, rfl⟩
  replace H : (some (y472, 1)) = some (r1, r2) := by first | (rw [hy472]; with_reducible exact H) | (have H2_ := (Option.bind_some _ _).symm.trans H; rw [hy472]; with_reducible exact H2_) | (have H2_ := (Option.bind_some _ _).symm.trans H; with_reducible exact H2_) | with_reducible exact H | (rw [hy472]; exact H) | exact H
  have Ny472 := aM hy472
  clear hy472
  simp only [Option.some.injEq, Prod.mk.injEq] at H
  obtain ⟨rfl, rfl⟩ := H
  go_enter Tryz.func96, Tryz.ntmps96
  go_wp2_with (first | ((with_reducible refine gC 117 ?_); refine gL (some 15) Tryz.func117 #[.string a0, .int .i64 a1] ?_; (with_reducible refine (hornbookref04_octal.calls k a0 a1 t464 t465 _ A4.out).mono ?_); rintro e w' ⟨rfl, ⟨nd, rfl⟩⟩; refine ⟨_, rfl, ?_⟩; have p10 : 0 ≤ (a1 : Int) := of_decide_eq_true hQ; have q10 : a1 < (a0.size : Int) := of_decide_eq_true hQ; have hx10 := bt_at a0 a1; replace p10 := eq_true p10; replace q10 := eq_true q10) | ((with_reducible refine gD 32 ?_); refine Kd.R_lit (Kd.int .u8) _ 5 ?hg (N := 32) ?hd (xs := ([13] : List Int)) (inner := [.int .u8 13]) (ok := fun _ => True) (okp := fun _ => True) ?hr ?hp (fun _ hk => hk) trivial (Below.refl _ _) (Nat.le_refl _) (by simp) ?_; (case hd => rfl); (case hg => rfl); (case hr => first | (go_simp; done) | (go_simp; rfl)); (case hp => exact (Reps.one (show Kd.M (Kd.int .u8) _ _ _ 13 [.int .u8 13] from rfl) (Reps.none _ _))); intro v473 w15 ho16 hb hg_ hnew_; clear hg_ hnew_; (first | rw [← Ny472.out] at ho16 | (simp only [Int.reduceToNat] at ho16; rw [← Ny472.out] at ho16)); have HO474 := lK ho16; replace HB := sB hb; clear hb ho16))
  go_ret2
  exact ⟨_, eQ, mQ HO474, bQ⟩
 refine iEc H ?_ ?_<;>clear H<;>intro H c17b0 c17b1 c17
 ·clear c17
  obtain ⟨y475, hy475⟩ : ∃ y_ : List Int, y_ = (([9] : List Int)) := ⟨_, rfl⟩
  replace H : (some (y475, 1)) = some (r1, r2) := by first | (rw [hy475]; with_reducible exact H) | (have H2_ := (Option.bind_some _ _).symm.trans H; rw [hy475]; with_reducible exact H2_) | (have H2_ := (Option.bind_some _ _).symm.trans H; with_reducible exact H2_) | with_reducible exact H | (rw [hy475]; exact H) | exact H
  have Ny475 := aM hy475
  clear hy475
  simp only [Option.some.injEq, Prod.mk.injEq] at H
  obtain ⟨rfl, rfl⟩ := H
  go_enter Tryz.func96, Tryz.ntmps96
  go_wp2_with (first | ((with_reducible refine gC 117 ?_); refine gL (some 15) Tryz.func117 #[.string a0, .int .i64 a1] ?_; (with_reducible refine (hornbookref04_octal.calls k a0 a1 t464 t465 _ A4.out).mono ?_); rintro e w' ⟨rfl, ⟨nd, rfl⟩⟩; refine ⟨_, rfl, ?_⟩; have p10 : 0 ≤ (a1 : Int) := of_decide_eq_true hQ; have q10 : a1 < (a0.size : Int) := of_decide_eq_true hQ; have hx10 := bt_at a0 a1; replace p10 := eq_true p10; replace q10 := eq_true q10) | ((with_reducible refine gD 35 ?_); refine Kd.R_lit (Kd.int .u8) _ 5 ?hg (N := 35) ?hd (xs := ([9] : List Int)) (inner := [.int .u8 9]) (ok := fun _ => True) (okp := fun _ => True) ?hr ?hp (fun _ hk => hk) trivial (Below.refl _ _) (Nat.le_refl _) (by simp) ?_; (case hd => rfl); (case hg => rfl); (case hr => first | (go_simp; done) | (go_simp; rfl)); (case hp => exact (Reps.one (show Kd.M (Kd.int .u8) _ _ _ 9 [.int .u8 9] from rfl) (Reps.none _ _))); intro v476 w18 ho19 hb hg_ hnew_; clear hg_ hnew_; (first | rw [← Ny475.out] at ho19 | (simp only [Int.reduceToNat] at ho19; rw [← Ny475.out] at ho19)); have HO477 := lK ho19; replace HB := sB hb; clear hb ho19))
  go_ret2
  exact ⟨_, eQ, mQ HO477, bQ⟩
 refine iEc H ?_ ?_<;>clear H<;>intro H c20b0 c20b1 c20
 ·clear c20
  obtain ⟨y478, hy478⟩ : ∃ y_ : List Int, y_ = (([8] : List Int)) := ⟨_, rfl⟩
  replace H : (some (y478, 1)) = some (r1, r2) := by first | (rw [hy478]; with_reducible exact H) | (have H2_ := (Option.bind_some _ _).symm.trans H; rw [hy478]; with_reducible exact H2_) | (have H2_ := (Option.bind_some _ _).symm.trans H; with_reducible exact H2_) | with_reducible exact H | (rw [hy478]; exact H) | exact H
  have Ny478 := aM hy478
  clear hy478
  simp only [Option.some.injEq, Prod.mk.injEq] at H
  obtain ⟨rfl, rfl⟩ := H
  go_enter Tryz.func96, Tryz.ntmps96
  go_wp2_with (first | ((with_reducible refine gC 117 ?_); refine gL (some 15) Tryz.func117 #[.string a0, .int .i64 a1] ?_; (with_reducible refine (hornbookref04_octal.calls k a0 a1 t464 t465 _ A4.out).mono ?_); rintro e w' ⟨rfl, ⟨nd, rfl⟩⟩; refine ⟨_, rfl, ?_⟩; have p10 : 0 ≤ (a1 : Int) := of_decide_eq_true hQ; have q10 : a1 < (a0.size : Int) := of_decide_eq_true hQ; have hx10 := bt_at a0 a1; replace p10 := eq_true p10; replace q10 := eq_true q10) | ((with_reducible refine gD 38 ?_); refine Kd.R_lit (Kd.int .u8) _ 5 ?hg (N := 38) ?hd (xs := ([8] : List Int)) (inner := [.int .u8 8]) (ok := fun _ => True) (okp := fun _ => True) ?hr ?hp (fun _ hk => hk) trivial (Below.refl _ _) (Nat.le_refl _) (by simp) ?_; (case hd => rfl); (case hg => rfl); (case hr => first | (go_simp; done) | (go_simp; rfl)); (case hp => exact (Reps.one (show Kd.M (Kd.int .u8) _ _ _ 8 [.int .u8 8] from rfl) (Reps.none _ _))); intro v479 w21 ho22 hb hg_ hnew_; clear hg_ hnew_; (first | rw [← Ny478.out] at ho22 | (simp only [Int.reduceToNat] at ho22; rw [← Ny478.out] at ho22)); have HO480 := lK ho22; replace HB := sB hb; clear hb ho22))
  go_ret2
  exact ⟨_, eQ, mQ HO480, bQ⟩
 refine iEc H ?_ ?_<;>clear H<;>intro H c23b0 c23b1 c23
 ·clear c23
  obtain ⟨y481, hy481⟩ : ∃ y_ : List Int, y_ = (([12] : List Int)) := ⟨_, rfl⟩
  replace H : (some (y481, 1)) = some (r1, r2) := by first | (rw [hy481]; with_reducible exact H) | (have H2_ := (Option.bind_some _ _).symm.trans H; rw [hy481]; with_reducible exact H2_) | (have H2_ := (Option.bind_some _ _).symm.trans H; with_reducible exact H2_) | with_reducible exact H | (rw [hy481]; exact H) | exact H
  have Ny481 := aM hy481
  clear hy481
  simp only [Option.some.injEq, Prod.mk.injEq] at H
  obtain ⟨rfl, rfl⟩ := H
  go_enter Tryz.func96, Tryz.ntmps96
  go_wp2_with (first | ((with_reducible refine gC 117 ?_); refine gL (some 15) Tryz.func117 #[.string a0, .int .i64 a1] ?_; (with_reducible refine (hornbookref04_octal.calls k a0 a1 t464 t465 _ A4.out).mono ?_); rintro e w' ⟨rfl, ⟨nd, rfl⟩⟩; refine ⟨_, rfl, ?_⟩; have p10 : 0 ≤ (a1 : Int) := of_decide_eq_true hQ; have q10 : a1 < (a0.size : Int) := of_decide_eq_true hQ; have hx10 := bt_at a0 a1; replace p10 := eq_true p10; replace q10 := eq_true q10) | ((with_reducible refine gD 41 ?_); refine Kd.R_lit (Kd.int .u8) _ 5 ?hg (N := 41) ?hd (xs := ([12] : List Int)) (inner := [.int .u8 12]) (ok := fun _ => True) (okp := fun _ => True) ?hr ?hp (fun _ hk => hk) trivial (Below.refl _ _) (Nat.le_refl _) (by simp) ?_; (case hd => rfl); (case hg => rfl); (case hr => first | (go_simp; done) | (go_simp; rfl)); (case hp => exact (Reps.one (show Kd.M (Kd.int .u8) _ _ _ 12 [.int .u8 12] from rfl) (Reps.none _ _))); intro v482 w24 ho25 hb hg_ hnew_; clear hg_ hnew_; (first | rw [← Ny481.out] at ho25 | (simp only [Int.reduceToNat] at ho25; rw [← Ny481.out] at ho25)); have HO483 := lK ho25; replace HB := sB hb; clear hb ho25))
  go_ret2
  exact ⟨_, eQ, mQ HO483, bQ⟩
 refine iEc H ?_ ?_<;>clear H<;>intro H c26b0 c26b1 c26
 ·clear c26
  simp only [Option.some.injEq, Prod.mk.injEq] at H
  obtain ⟨rfl, rfl⟩ := H
  go_enter Tryz.func96, Tryz.ntmps96
  go_wp2_with (first | ((with_reducible refine gC 117 ?_); refine gL (some 15) Tryz.func117 #[.string a0, .int .i64 a1] ?_; (with_reducible refine (hornbookref04_octal.calls k a0 a1 t464 t465 _ A4.out).mono ?_); rintro e w' ⟨rfl, ⟨nd, rfl⟩⟩; refine ⟨_, rfl, ?_⟩; have p10 : 0 ≤ (a1 : Int) := of_decide_eq_true hQ; have q10 : a1 < (a0.size : Int) := of_decide_eq_true hQ; have hx10 := bt_at a0 a1; replace p10 := eq_true p10; replace q10 := eq_true q10))
  go_ret2
  exact ⟨_, eQ, by first | exact Kd.R_nil _ _ _ _ _ | exact Kd.N_nil _ _ _ _ _ | exact Kd.V_nil _ _ _ _ _ | exact Kd.Q_nil _ _ _ _ _ | exact Kd.S_nil _ _ _ _ _, bQ⟩
 refine iEc H ?_ ?_<;>clear H<;>intro H c27b0 c27b1 c27
 rotate_left
 ·obtain ⟨y485, hy485⟩ : ∃ y_ : List Int, y_ = (([bt a0 a1] : List Int)) := ⟨_, rfl⟩
  replace H : (some (y485, 1)) = some (r1, r2) := by first | (rw [hy485]; with_reducible exact H) | (have H2_ := (Option.bind_some _ _).symm.trans H; rw [hy485]; with_reducible exact H2_) | (have H2_ := (Option.bind_some _ _).symm.trans H; with_reducible exact H2_) | with_reducible exact H | (rw [hy485]; exact H) | exact H
  have Ny485 := aM hy485
  clear hy485
  simp only [Option.some.injEq, Prod.mk.injEq] at H
  obtain ⟨rfl, rfl⟩ := H
  go_enter Tryz.func96, Tryz.ntmps96
  go_wp2_with (first | ((with_reducible refine gC 117 ?_); refine gL (some 15) Tryz.func117 #[.string a0, .int .i64 a1] ?_; (with_reducible refine (hornbookref04_octal.calls k a0 a1 t464 t465 _ A4.out).mono ?_); rintro e w' ⟨rfl, ⟨nd, rfl⟩⟩; refine ⟨_, rfl, ?_⟩; have p10 : 0 ≤ (a1 : Int) := of_decide_eq_true hQ; have q10 : a1 < (a0.size : Int) := of_decide_eq_true hQ; have hx10 := bt_at a0 a1; replace p10 := eq_true p10; replace q10 := eq_true q10; have p30 : 0 ≤ (a1 : Int) := of_decide_eq_true hQ; have q30 : a1 < (a0.size : Int) := of_decide_eq_true hQ; have hx30 := bt_at a0 a1; replace p30 := eq_true p30; replace q30 := eq_true q30) | ((with_reducible refine gD 53 ?_); refine Kd.R_lit (Kd.int .u8) _ 5 ?hg (N := 53) ?hd (xs := ([bt a0 a1] : List Int)) (inner := [.int .u8 (bt a0 a1)]) (ok := fun _ => True) (okp := fun _ => True) ?hr ?hp (fun _ hk => hk) trivial (Below.refl _ _) (Nat.le_refl _) (by simp) ?_; (case hd => rfl); (case hg => rfl); (case hr => first | (go_simp; done) | (go_simp; rfl)); (case hp => exact (Reps.one (show Kd.M (Kd.int .u8) _ _ _ (bt a0 a1) [.int .u8 (bt a0 a1)] from rfl) (Reps.none _ _))); intro v486 w31 ho32 hb hg_ hnew_; clear hg_ hnew_; (first | rw [← Ny485.out] at ho32 | (simp only [Int.reduceToNat] at ho32; rw [← Ny485.out] at ho32)); have HO487 := lK ho32; replace HB := sB hb; clear hb ho32))
  go_ret2
  exact ⟨_, eQ, mQ HO487, bQ⟩
 clear c27
 replace H := bS H
 obtain ⟨t484, A28, H⟩ := H
 try dsimp only at H
 by_cases c29 : t484 = true
 ·subst c29
  rw [if_pos rfl] at H
  simp only [Option.some.injEq, Prod.mk.injEq] at H
  obtain ⟨rfl, rfl⟩ := H
  go_enter Tryz.func96, Tryz.ntmps96
  go_wp2_with (first | ((with_reducible refine gC 117 ?_); refine gL (some 15) Tryz.func117 #[.string a0, .int .i64 a1] ?_; (with_reducible refine (hornbookref04_octal.calls k a0 a1 t464 t465 _ A4.out).mono ?_); rintro e w' ⟨rfl, ⟨nd, rfl⟩⟩; refine ⟨_, rfl, ?_⟩; have p10 : 0 ≤ (a1 : Int) := of_decide_eq_true hQ; have q10 : a1 < (a0.size : Int) := of_decide_eq_true hQ; have hx10 := bt_at a0 a1; replace p10 := eq_true p10; replace q10 := eq_true q10) | ((with_reducible refine gC 59 ?_); refine gL (some 49) Tryz.func59 #[.string a0, .int .i64 (wrap64 (a1 + 1)), .int .u8 10] ?_; (with_reducible refine (hornbookref04_is.calls a0 (wrap64 (a1 + 1)) 10 true _ A28.out).mono ?_); rintro e w' ⟨rfl, ⟨nd, rfl⟩⟩; refine ⟨_, rfl, ?_⟩))
  go_ret2
  exact ⟨_, eQ, by first | exact Kd.R_nil _ _ _ _ _ | exact Kd.N_nil _ _ _ _ _ | exact Kd.V_nil _ _ _ _ _ | exact Kd.Q_nil _ _ _ _ _ | exact Kd.S_nil _ _ _ _ _, bQ⟩
 replace c29 := Bool.eq_false_iff.mpr c29
 subst c29
 rw [if_neg (show ¬ (false = true) by decide)] at H
 simp only [Option.some.injEq, Prod.mk.injEq] at H
 obtain ⟨rfl, rfl⟩ := H
 go_enter Tryz.func96, Tryz.ntmps96
 go_wp2_with (first | ((with_reducible refine gC 117 ?_); refine gL (some 15) Tryz.func117 #[.string a0, .int .i64 a1] ?_; (with_reducible refine (hornbookref04_octal.calls k a0 a1 t464 t465 _ A4.out).mono ?_); rintro e w' ⟨rfl, ⟨nd, rfl⟩⟩; refine ⟨_, rfl, ?_⟩; have p10 : 0 ≤ (a1 : Int) := of_decide_eq_true hQ; have q10 : a1 < (a0.size : Int) := of_decide_eq_true hQ; have hx10 := bt_at a0 a1; replace p10 := eq_true p10; replace q10 := eq_true q10) | ((with_reducible refine gC 59 ?_); refine gL (some 49) Tryz.func59 #[.string a0, .int .i64 (wrap64 (a1 + 1)), .int .u8 10] ?_; (with_reducible refine (hornbookref04_is.calls a0 (wrap64 (a1 + 1)) 10 false _ A28.out).mono ?_); rintro e w' ⟨rfl, ⟨nd, rfl⟩⟩; refine ⟨_, rfl, ?_⟩))
 go_ret2
 exact ⟨_, eQ, by first | exact Kd.R_nil _ _ _ _ _ | exact Kd.N_nil _ _ _ _ _ | exact Kd.V_nil _ _ _ _ _ | exact Kd.Q_nil _ _ _ _ _ | exact Kd.S_nil _ _ _ _ _, bQ⟩
end Go.Proofs.YtdcldaknmenklaaGreatDoor.M
end
section
/- Laid by this session's program hbprint.py out of the translation: the function hornbook/hornbookref04.strung and its contract. -/
namespace Go.Proofs.YtdcldaknmenklaaGreatDoor.M
open Go.RowKit Go.Proofs.YtdcldaknmenklaaGreatDoorW.PrintWords Go.Proofs.YtdcldaknmenklaaGreatDoorW.PrintLast Go.Proofs.YtdcldaknmenklaaGreatDoorW.PrintMore
attribute [local go_sem] max2_int min2_int max_two min_two max_three min_three max_four min_four
set_option linter.unusedVariables false
set_option linter.unusedSimpArgs false
mutual
def hornbookref04_strung.l0 : Nat → ByteArray → Int → List Int → Int → Int → Option (Int × Int × Int × ByteArray × Int × Int)
 | 0, _, _, _, _, _ => none
 | k + 1, x0, x1, x7, x8, x9 => if x9 < (x0.size : Int) then (if 0 ≤ x9 then (if (bt x0 x9) = 92 then ((hornbookref04_escaped.f k x0 (wrap64 (x9 + 1))).bind fun bt495 => (if bt495.2 = 0 then ((hornbookref04_fail.f (x0.size : Int) 2).bind fun bt499 => (some (bt499.1, bt499.2.1, bt499.2.2.1, bt499.2.2.2.1, bt499.2.2.2.2.1, bt499.2.2.2.2.2))) else (if x7.length + bt495.1.length < 140737488355328 then (hornbookref04_strung.l0 k x0 x1 (x7 ++ bt495.1) x8 (wrap64 ((wrap64 (x9 + 1)) + bt495.2))) else (none)))) else (if (bt x0 x9) = 40 then (if (wrap64 (x8 + 1)) > 32 then ((hornbookref04_fail.f x9 5).bind fun bt508 => (some (bt508.1, bt508.2.1, bt508.2.2.1, bt508.2.2.2.1, bt508.2.2.2.2.1, bt508.2.2.2.2.2))) else (hornbookref04_strung.j1 k x0 x1 x7 (wrap64 (x8 + 1)) x9 (bt x0 x9))) else (hornbookref04_strung.j1 k x0 x1 x7 x8 x9 (bt x0 x9)))) else (none)) else ((hornbookref04_fail.f (x0.size : Int) 2).bind fun bt489 => (some (bt489.1, bt489.2.1, bt489.2.2.1, bt489.2.2.2.1, bt489.2.2.2.2.1, bt489.2.2.2.2.2)))
def hornbookref04_strung.j1 : Nat → ByteArray → Int → List Int → Int → Int → Int → Option (Int × Int × Int × ByteArray × Int × Int)
 | 0, _, _, _, _, _, _ => none
 | k + 1, x0, x1, x7, x8, x9, x10 => if x10 = 41 then (if (wrap64 (x8 - 1)) = 0 then (some (5, x1, 0, strOfNums x7, wrap64 (x9 + 1), 0)) else (hornbookref04_strung.j2 k x0 x1 x7 (wrap64 (x8 - 1)) x9 x10)) else (hornbookref04_strung.j2 k x0 x1 x7 x8 x9 x10)
def hornbookref04_strung.j2 : Nat → ByteArray → Int → List Int → Int → Int → Int → Option (Int × Int × Int × ByteArray × Int × Int)
 | 0, _, _, _, _, _, _ => none
 | k + 1, x0, x1, x7, x8, x9, x10 => if x10 = 13 then ((hornbookref04_is.f x0 (wrap64 (x9 + 1)) 10).bind fun t514 => (if t514 = true then (if x7.length < 140737488355328 then (hornbookref04_strung.l0 k x0 x1 (x7 ++ [10]) x8 (wrap64 ((wrap64 (x9 + 1)) + 1))) else (none)) else (if x7.length < 140737488355328 then (hornbookref04_strung.l0 k x0 x1 (x7 ++ [10]) x8 (wrap64 (x9 + 1))) else (none)))) else (if x7.length < 140737488355328 then (hornbookref04_strung.l0 k x0 x1 (x7 ++ [x10]) x8 (wrap64 (x9 + 1))) else (none))
end
def hornbookref04_strung.f (k : Nat) (a0 : ByteArray) (a1 : Int) : Option (Int × Int × Int × ByteArray × Int × Int) := hornbookref04_strung.l0 k a0 a1 ([] : List Int) 1 (wrap64 (a1 + 1))
set_option maxHeartbeats 8000000 in
set_option maxRecDepth 100000 in
theorem hornbookref04_strung.calls (k : Nat) (a0 : ByteArray) (a1 : Int) (r1 : Int) (r2 : Int) (r3 : Int) (r4 : ByteArray) (r5 : Int) (r6 : Int) (w : World) (h : hornbookref04_strung.f k a0 a1 = some (r1, r2, r3, r4, r5, r6)) :
  Calls Tryz.prog 63 #[.string a0, .int .i64 a1] w fun e w' => e = .returned (.tuple #[.agg #[.int .i64 r1, .int .i64 r2, .int .i64 r3, .string r4], .int .i64 r5, .int .i64 r6]) ∧ Below w.heap.size w w' := by
 have hu65 := Tryz.underlying65
 have HB := aM (Below.refl w.heap.size w)
 have H : (hornbookref04_strung.l0 k a0 a1 ([] : List Int) 1 (wrap64 (a1 + 1))) = some (r1, r2, r3, r4, r5, r6) := h
 clear h
 have H' := aM H
 clear H
 go_enter Tryz.func63, Tryz.ntmps63
 go_wp2_with (first | ((with_reducible refine gD 4 ?_); refine bE 4 (cs := #[.int .i64 0, .int .i64 0, .int .i64 0, .string (⟨#[]⟩ : ByteArray)]) (t := 65) ?_; intro gb488 hg w3 hbox hb; have BK488 := aM hbox; have GW488 := sG w hg; have GE488 := sG w hg; replace HB := sB hb; clear hb hbox hg))
 go_loopg [7, 8, 9] k (fun kq v7 v8 v9 w' => ∃ (x7_1 : List Int) (x8_1 : Int) (x9_1 : Int) (x489000_1 : Int) (x489001_1 : Int) (x489002_1 : Int) (x489003_1 : ByteArray), v8 = .int .i64 x8_1 ∧ v9 = .int .i64 x9_1 ∧ Aside0 (hornbookref04_strung.l0 kq a0 a1 x7_1 x8_1 x9_1 = some (r1, r2, r3, r4, r5, r6)) ∧ Aside0 (kq ≤ k) ∧ Aside0 (Kd.R (Kd.int .u8) 5 w' w.heap.size (fun _ => True) v7 x7_1) ∧ Aside0 (w'.heap[gb488]? = some (.cells #[.int .i64 x489000_1, .int .i64 x489001_1, .int .i64 x489002_1, .string x489003_1] 65 (0, 0))) ∧ Aside0 (Below w.heap.size w w'))
 case atStart => exact ⟨(([] : List Int)), (1), (wrap64 (a1 + 1)), (0), (0), (0), ((⟨#[]⟩ : ByteArray)), vQ, vQ, H', ⟨Nat.le_refl _⟩, ⟨by first | exact Kd.R_nil _ _ _ _ _ | exact Kd.N_nil _ _ _ _ _ | exact Kd.V_nil _ _ _ _ _ | exact Kd.Q_nil _ _ _ _ _ | exact Kd.S_nil _ _ _ _ _⟩, ⟨kQ⟩, ⟨bQ⟩⟩
 case round =>
  clear H'
  try clear p2
  obtain ⟨x7_1, x8_1, x9_1, x489000_1, x489001_1, x489002_1, x489003_1, rfl, rfl, HA, HK1, HO_7, BK488, HB⟩ := hrel
  cases gk with
  | zero => exact absurd HA.out (by simp [hornbookref04_strung.l0])
  | succ k1 =>
   have H := HA.out
   clear HA
   simp only [hornbookref04_strung.l0] at H
   refine iD H ?_ ?_<;>clear H<;>intro H c4b0
   rotate_left
   ·replace H := bS H
    obtain ⟨⟨t489, t490, t491, t492, t493, t494⟩, A38, H⟩ := H
    try dsimp only at H
    simp only [Option.some.injEq, Prod.mk.injEq] at H
    obtain ⟨rfl, rfl, rfl, rfl, rfl, rfl⟩ := H
    go_wp2_with (first | ((with_reducible refine gC 58 ?_); refine gL (some 84) Tryz.func58 #[.int .i64 (a0.size : Int), .int .i64 2] ?_; (with_reducible refine cB (hornbookref04_fail.calls (a0.size : Int) 2 t489 t490 t491 t492 t493 t494 _ A38.out) ?_); intro w39 hb; replace HO_7 := rK HO_7 hb; replace BK488 := kK BK488 hb; replace HB := sB hb; clear hb; obtain ⟨hcz40_0, hcz40_1, hcz40_2, hcz40_3, hfz40_0, hfz40_1, hfz40_2, hfz40_3⟩ := b4 BK488))
    refine bodyPost_ret (results_ctt rfl _ _ gb488 65 #[.int .i64 t489, .int .i64 t490, .int .i64 t491, .string t492] (0, 0) _ rfl kQ Tryz.underlying65 rfl (by kernel_rfl)) rfl ?_
    exact ⟨eQ, bQ⟩
   refine iD H ?_ ?_<;>clear H<;>intro H c5b0
   rotate_left
   ·exact absurd H (by simp)
   refine iEc H ?_ ?_<;>clear H<;>intro H c7b0 c7b1 c7
   ·clear c7
    replace H := bS H
    obtain ⟨⟨t495, t496⟩, A8, H⟩ := H
    try dsimp only at H
    refine iEc H ?_ ?_<;>clear H<;>intro H c9b0 c9b1 c9
    ·clear c9
     replace H := bS H
     obtain ⟨⟨t499, t500, t501, t502, t503, t504⟩, A10, H⟩ := H
     try dsimp only at H
     simp only [Option.some.injEq, Prod.mk.injEq] at H
     obtain ⟨rfl, rfl, rfl, rfl, rfl, rfl⟩ := H
     have p6 : 0 ≤ (x9_1 : Int) := of_decide_eq_true hQ
     have q6 : x9_1 < (a0.size : Int) := of_decide_eq_true hQ
     have hx6 := bt_at a0 x9_1
     replace p6 := eq_true p6
     replace q6 := eq_true q6
     go_wp2_with (first | ((with_reducible refine gC 96 ?_); refine gL (some 28) Tryz.func96 #[.string a0, .int .i64 (wrap64 (x9_1 + 1))] ?_; (with_reducible refine (hornbookref04_escaped.calls k1 a0 (wrap64 (x9_1 + 1)) t495 t496 _ A8.out).mono ?_); rintro e w11 ⟨v497, rfl, ho0, hb⟩; refine ⟨_, rfl, ?_⟩; have HO498 := nK ho0 HO_7; replace HO_7 := eK HO_7 ho0 hb; replace BK488 := kK BK488 hb; replace HB := sB hb; clear hb ho0) | ((with_reducible refine gC 58 ?_); refine gL (some 35) Tryz.func58 #[.int .i64 (a0.size : Int), .int .i64 2] ?_; (with_reducible refine cB (hornbookref04_fail.calls (a0.size : Int) 2 t499 t500 t501 t502 t503 t504 _ A10.out) ?_); intro w12 hb; replace HO_7 := rK HO_7 hb; replace HO498 := rK HO498 hb; replace BK488 := kK BK488 hb; replace HB := sB hb; clear hb; obtain ⟨hcz13_0, hcz13_1, hcz13_2, hcz13_3, hfz13_0, hfz13_1, hfz13_2, hfz13_3⟩ := b4 BK488))
     refine bodyPost_ret (results_ctt rfl _ _ gb488 65 #[.int .i64 t499, .int .i64 t500, .int .i64 t501, .string t502] (0, 0) _ rfl kQ Tryz.underlying65 rfl (by kernel_rfl)) rfl ?_
     exact ⟨eQ, bQ⟩
    refine iNc H ?_ ?_<;>clear H<;>intro H c14
    rotate_left
    ·exact absurd H (by simp)
    have LMc14 := aM c14
    clear c14
    obtain ⟨y505, hy505⟩ : ∃ y_ : List Int, y_ = (x7_1 ++ t495) := ⟨_, rfl⟩
    replace H : (hornbookref04_strung.l0 k1 a0 a1 y505 x8_1 (wrap64 ((wrap64 (x9_1 + 1)) + t496))) = some (r1, r2, r3, r4, r5, r6) := by first | (rw [hy505]; with_reducible exact H) | (have H2_ := (Option.bind_some _ _).symm.trans H; rw [hy505]; with_reducible exact H2_) | (have H2_ := (Option.bind_some _ _).symm.trans H; with_reducible exact H2_) | with_reducible exact H | (rw [hy505]; exact H) | exact H
    have Ny505 := aM hy505
    clear hy505
    have H' := aM H
    clear H
    have p6 : 0 ≤ (x9_1 : Int) := of_decide_eq_true hQ
    have q6 : x9_1 < (a0.size : Int) := of_decide_eq_true hQ
    have hx6 := bt_at a0 x9_1
    replace p6 := eq_true p6
    replace q6 := eq_true q6
    go_wp2_with (first | ((with_reducible refine gC 96 ?_); refine gL (some 28) Tryz.func96 #[.string a0, .int .i64 (wrap64 (x9_1 + 1))] ?_; (with_reducible refine (hornbookref04_escaped.calls k1 a0 (wrap64 (x9_1 + 1)) t495 t496 _ A8.out).mono ?_); rintro e w15 ⟨v497, rfl, ho0, hb⟩; refine ⟨_, rfl, ?_⟩; have HO498 := nK ho0 HO_7; replace HO_7 := eK HO_7 ho0 hb; replace BK488 := kK BK488 hb; replace HB := sB hb; clear hb ho0; obtain ⟨Ao17, co17, eo17⟩ := Kd.R_slice HO498.out; subst eo17) | ((with_reducible refine gate_builtin (b := .append) (xs := #[.tmp 39, .tmp 40]) rfl ?_); at_builtin; refine Kd.R_append_rows (Kd.int .u8) (w0 := w) w.heap.size rfl (.tmp 39) (.tmp 40) 78 5 (.int .u8 0) 1 rfl Tryz.underlying78 info5 rfl (by decide) (by omega) u7 x7_1 t495 _ _ _ (fun k_ => some k_ ≠ (.slice Ao17 t495.length co17 : Value).ownBlock) (fun _ => False) rfl rfl ?aO ?aR (fun _ _ h => h) (fun _ h => h.elim) ?aF ?aB ?aS ?aL ?_; (case aR => exact cQ HO498); (case aB => exact bQ); (case aF => exact (fun k_ hk => Kd.fresh' (Kd.R_lt (mQ HO498)) k_ hk)); (case aO => exact (by (with_reducible repeat first|apply rA|apply rD|apply r1); exact Kd.R_mono HO_7.out (fun _ hk => hk.2))); (case aS => exact (below_size bQ)); (case aL => have := LMc14.out; omega); intro v506 w16 ho hb hg hat; rw [← Ny505.out] at ho; have n0_ := aM (blk_grown (g := gb488) (o := .cells #[.int .i64 x489000_1, .int .i64 x489001_1, .int .i64 x489002_1, .string x489003_1] 65 (0, 0)) kQ hg (Kd.R_ne HO_7.out BK488.out (by decide))); have n1_ := aM (Kd.R_after (ok := (fun _ => True)) (mQ HO498) hg hat); have n2_ := aM hb; have n3_ := aM ho; clear BK488; clear HO498; clear HB; clear HO_7; have BK488 := n0_; have HO498 := n1_; have HB := n2_; have HO507 := n3_; clear n0_ n1_ n2_ n3_; clear ho hb hg hat))
    go_roundg k1
    case measure => have := HK1.out; omega
    case rel => exact ⟨(y505), (x8_1), (wrap64 ((wrap64 (x9_1 + 1)) + t496)), (x489000_1), (x489001_1), (x489002_1), (x489003_1), vQ, vQ, H', ⟨by have := HK1.out; omega⟩, ⟨by (with_reducible repeat first|apply rA|apply rD|apply r1); exact Kd.R_mono HO507.out (fun _ hk => trivial)⟩, ⟨kQ⟩, ⟨bQ⟩⟩
   have HC18 := aM H
   clear H
   have p6 : 0 ≤ (x9_1 : Int) := of_decide_eq_true hQ
   have q6 : x9_1 < (a0.size : Int) := of_decide_eq_true hQ
   have hx6 := bt_at a0 x9_1
   replace p6 := eq_true p6
   replace q6 := eq_true q6
   go_upto_if 47 with (fail)
   go_cut [8] (fun v8 wc => ∃ (kq : Nat) (x8_17 : Int) (x489000_17 : Int) (x489001_17 : Int) (x489002_17 : Int) (x489003_17 : ByteArray), v8 = .int .i64 x8_17 ∧ Aside0 (hornbookref04_strung.j1 kq a0 a1 x7_1 x8_17 x9_1 (bt a0 x9_1) = some (r1, r2, r3, r4, r5, r6)) ∧ Aside0 (kq ≤ k1) ∧ Aside0 (Kd.R (Kd.int .u8) 5 wc w.heap.size (fun _ => True) u7 x7_1) ∧ Aside0 (wc.heap[gb488]? = some (.cells #[.int .i64 x489000_17, .int .i64 x489001_17, .int .i64 x489002_17, .string x489003_17] 65 (0, 0))) ∧ Aside0 (Below w.heap.size w wc))
   case first =>
    have H := HC18.out
    clear HC18
    refine iEc H ?_ ?_<;>clear H<;>intro H c19b0 c19b1 c19
    rotate_left
    ·(first | rw [c19b0] | (simp only [i64_w, i32_w]; rw [c19b0]) | skip)
     have H' := aM H
     clear H
     go_wp2
     go_meet
     case rel => exact ⟨_, (x8_1), (x489000_1), (x489001_1), (x489002_1), (x489003_1), vQ, H', ⟨by have := HK1.out; first | omega | exact Nat.le_refl _⟩, ⟨mQ HO_7⟩, ⟨kQ⟩, ⟨bQ⟩⟩
    clear c19
    (first | rw [c19b0] | (simp only [i64_w, i32_w]; rw [c19b0]) | skip)
    refine iNc H ?_ ?_<;>clear H<;>intro H c20
    rotate_left
    ·have c20b0 : decide (32 < (wrap64 (x8_1 + 1))) = false := decide_eq_false c20
     clear c20
     have H' := aM H
     clear H
     go_wp2
     go_meet
     case rel => exact ⟨_, (wrap64 (x8_1 + 1)), (x489000_1), (x489001_1), (x489002_1), (x489003_1), vQ, H', ⟨by have := HK1.out; first | omega | exact Nat.le_refl _⟩, ⟨mQ HO_7⟩, ⟨kQ⟩, ⟨bQ⟩⟩
    have c20b0 : decide (32 < (wrap64 (x8_1 + 1))) = true := decide_eq_true c20
    clear c20
    replace H := bS H
    obtain ⟨⟨t508, t509, t510, t511, t512, t513⟩, A21, H⟩ := H
    try dsimp only at H
    simp only [Option.some.injEq, Prod.mk.injEq] at H
    obtain ⟨rfl, rfl, rfl, rfl, rfl, rfl⟩ := H
    go_wp2_with (first | ((with_reducible refine gC 58 ?_); refine gL (some 53) Tryz.func58 #[.int .i64 x9_1, .int .i64 5] ?_; (with_reducible refine cB (hornbookref04_fail.calls x9_1 5 t508 t509 t510 t511 t512 t513 _ A21.out) ?_); intro w22 hb; replace HO_7 := rK HO_7 hb; replace BK488 := kK BK488 hb; replace HB := sB hb; clear hb; obtain ⟨hcz23_0, hcz23_1, hcz23_2, hcz23_3, hfz23_0, hfz23_1, hfz23_2, hfz23_3⟩ := b4 BK488))
    refine bodyPost_ret (results_ctt rfl _ _ gb488 65 #[.int .i64 t508, .int .i64 t509, .int .i64 t510, .string t511] (0, 0) _ rfl kQ Tryz.underlying65 rfl (by kernel_rfl)) rfl ?_
    exact ⟨eQ, bQ⟩
   case rest =>
    clear HC18
    try clear c1
    try clear c2
    try clear p2
    try clear c4
    try clear c4b0
    try clear c5
    try clear c5b0
    try clear c6
    try clear p6
    try clear q6
    try clear hx6
    try clear c7
    try clear c7b0
    try clear c7b1
    try clear c9
    try clear c9b0
    try clear c9b1
    try clear c14
    try clear c19
    try clear c19b0
    try clear c19b1
    try clear c20
    try clear c20b0
    try clear hcz13_0
    try clear hcz13_1
    try clear hcz13_2
    try clear hcz13_3
    try clear hcz23_0
    try clear hcz23_1
    try clear hcz23_2
    try clear hcz23_3
    try clear hfz13_0
    try clear hfz13_1
    try clear hfz13_2
    try clear hfz13_3
    try clear hfz23_0
    try clear hfz23_1
    try clear hfz23_2
    try clear hfz23_3
    try clear p2
    try clear p6
    try clear q6
    obtain ⟨kq, x8_17, x489000_17, x489001_17, x489002_17, x489003_17, rfl, HA, HJ17, HO_7, BK488, HB⟩ := hcut
    cases kq with
    | zero => exact absurd HA.out (by simp [hornbookref04_strung.j1])
    | succ kj17 =>
     have H := HA.out
     clear HA
     simp only [hornbookref04_strung.j1] at H
     have HC24 := aM H
     clear H
     go_upto_if 58 with (fail)
     go_cut [8] (fun v8 wc => ∃ (kq : Nat) (x8_23 : Int) (x489000_23 : Int) (x489001_23 : Int) (x489002_23 : Int) (x489003_23 : ByteArray), v8 = .int .i64 x8_23 ∧ Aside0 (hornbookref04_strung.j2 kq a0 a1 x7_1 x8_23 x9_1 (bt a0 x9_1) = some (r1, r2, r3, r4, r5, r6)) ∧ Aside0 (kq ≤ kj17) ∧ Aside0 (Kd.R (Kd.int .u8) 5 wc w.heap.size (fun _ => True) u7 x7_1) ∧ Aside0 (wc.heap[gb488]? = some (.cells #[.int .i64 x489000_23, .int .i64 x489001_23, .int .i64 x489002_23, .string x489003_23] 65 (0, 0))) ∧ Aside0 (Below w.heap.size w wc))
     case first =>
      have H := HC24.out
      clear HC24
      refine iEc H ?_ ?_<;>clear H<;>intro H c25b0 c25b1 c25
      rotate_left
      ·(first | rw [c25b0] | (simp only [i64_w, i32_w]; rw [c25b0]) | skip)
       have H' := aM H
       clear H
       go_wp2
       go_meet
       case rel => exact ⟨_, (x8_17), (x489000_17), (x489001_17), (x489002_17), (x489003_17), vQ, H', ⟨by have := HK1.out; have := HJ17.out; first | omega | exact Nat.le_refl _⟩, ⟨mQ HO_7⟩, ⟨kQ⟩, ⟨bQ⟩⟩
      clear c25
      (first | rw [c25b0] | (simp only [i64_w, i32_w]; rw [c25b0]) | skip)
      refine iEc H ?_ ?_<;>clear H<;>intro H c26b0 c26b1 c26
      rotate_left
      ·have H' := aM H
       clear H
       go_wp2
       go_meet
       case rel => exact ⟨_, (wrap64 (x8_17 - 1)), (x489000_17), (x489001_17), (x489002_17), (x489003_17), vQ, H', ⟨by have := HK1.out; have := HJ17.out; first | omega | exact Nat.le_refl _⟩, ⟨mQ HO_7⟩, ⟨kQ⟩, ⟨bQ⟩⟩
      clear c26
      simp only [Option.some.injEq, Prod.mk.injEq] at H
      obtain ⟨rfl, rfl, rfl, rfl, rfl, rfl⟩ := H
      have hcv27 := own_string (P := Tryz.prog) Tryz.underlying78 Tryz.underlying5 Tryz.underlying9 (Kd.own_of_R HO_7.out)
      have hcz28_0 : wc.cell? ⟨gb488, 0, none⟩ = some (.int .i64 x489000_17) := (blk_cell BK488.out 0).trans rfl
      have hcz28_1 : wc.cell? ⟨gb488, 1, none⟩ = some (.int .i64 x489001_17) := (blk_cell BK488.out 1).trans rfl
      have hcz28_2 : wc.cell? ⟨gb488, 2, none⟩ = some (.int .i64 x489002_17) := (blk_cell BK488.out 2).trans rfl
      have hcz28_3 : wc.cell? ⟨gb488, 3, none⟩ = some (.string x489003_17) := (blk_cell BK488.out 3).trans rfl
      have hfz28_0 := blk_frozen BK488.out 0
      have hfz28_1 := blk_frozen BK488.out 1
      have hfz28_2 := blk_frozen BK488.out 2
      have hfz28_3 := blk_frozen BK488.out 3
      go_wp2
      refine bodyPost_ret (results_ctt rfl _ _ gb488 65 #[.int .i64 5, .int .i64 a1, .int .i64 0, .string (strOfNums x7_1)] (0, 0) _ rfl kQ Tryz.underlying65 rfl (by kernel_rfl)) rfl ?_
      exact ⟨eQ, bQ⟩
     case rest =>
      clear HC24
      try clear c1
      try clear c2
      try clear p2
      try clear hcv2
      try clear c4
      try clear c4b0
      try clear c5
      try clear c5b0
      try clear c6
      try clear p6
      try clear q6
      try clear hx6
      try clear c7
      try clear c7b0
      try clear c7b1
      try clear c9
      try clear c9b0
      try clear c9b1
      try clear c14
      try clear c19
      try clear c19b0
      try clear c19b1
      try clear c20
      try clear c20b0
      try clear c25
      try clear c25b0
      try clear c25b1
      try clear c26
      try clear c26b0
      try clear c26b1
      try clear hcv27
      try clear hcz13_0
      try clear hcz13_1
      try clear hcz13_2
      try clear hcz13_3
      try clear hcz23_0
      try clear hcz23_1
      try clear hcz23_2
      try clear hcz23_3
      try clear hcz28_0
      try clear hcz28_1
      try clear hcz28_2
      try clear hcz28_3
      try clear hfz13_0
      try clear hfz13_1
      try clear hfz13_2
      try clear hfz13_3
      try clear hfz23_0
      try clear hfz23_1
      try clear hfz23_2
      try clear hfz23_3
      try clear hfz28_0
      try clear hfz28_1
      try clear hfz28_2
      try clear hfz28_3
      try clear p2
      try clear p6
      try clear q6
      obtain ⟨kq, x8_23, x489000_23, x489001_23, x489002_23, x489003_23, rfl, HA, HJ23, HO_7, BK488, HB⟩ := hcut
      cases kq with
      | zero => exact absurd HA.out (by simp [hornbookref04_strung.j2])
      | succ kj23 =>
       have H := HA.out
       clear HA
       simp only [hornbookref04_strung.j2] at H
       refine iEc H ?_ ?_<;>clear H<;>intro H c29b0 c29b1 c29
       rotate_left
       ·refine iNc H ?_ ?_<;>clear H<;>intro H c36
        rotate_left
        ·exact absurd H (by simp)
        have LMc36 := aM c36
        clear c36
        obtain ⟨y521, hy521⟩ : ∃ y_ : List Int, y_ = (x7_1 ++ [(bt a0 x9_1)]) := ⟨_, rfl⟩
        replace H : (hornbookref04_strung.l0 kj23 a0 a1 y521 x8_23 (wrap64 (x9_1 + 1))) = some (r1, r2, r3, r4, r5, r6) := by first | (rw [hy521]; with_reducible exact H) | (have H2_ := (Option.bind_some _ _).symm.trans H; rw [hy521]; with_reducible exact H2_) | (have H2_ := (Option.bind_some _ _).symm.trans H; with_reducible exact H2_) | with_reducible exact H | (rw [hy521]; exact H) | exact H
        have Ny521 := aM hy521
        clear hy521
        have H' := aM H
        clear H
        go_wp2_with (first | ((with_reducible refine gate_builtin (b := .append) (xs := #[.tmp 78, .tmp 80]) rfl ?_); at_builtin; refine Kd.R_append (Kd.int .u8) (w0 := w) w.heap.size rfl (.tmp 78) (.tmp 80) 78 5 (.int .u8 0) 1 rfl Tryz.underlying78 info5 rfl (by decide) (by omega) u7 x7_1 (bt a0 x9_1) [.int .u8 (bt a0 x9_1)] (fun _ => True) (fun _ => False) rfl rfl ?aP (fun _ hk => hk.elim) ?aF ?aO ?aB ?aS ?aL ?_; (case aP => exact rfl); (case aB => exact bQ); (case aF => exact (fun _ _ => trivial)); (case aO => exact (mQ HO_7)); (case aS => exact (below_size bQ)); (case aL => have := LMc36.out; omega); intro v522 w37 ho hb hg hat; rw [← Ny521.out] at ho; have n0_ := aM (blk_grown (g := gb488) (o := .cells #[.int .i64 x489000_23, .int .i64 x489001_23, .int .i64 x489002_23, .string x489003_23] 65 (0, 0)) kQ hg (Kd.R_ne HO_7.out BK488.out (by decide))); have n1_ := aM hb; have n2_ := aM ho; clear BK488; clear HB; clear HO_7; have BK488 := n0_; have HB := n1_; have HO523 := n2_; clear n0_ n1_ n2_; clear ho hb hg hat))
        go_roundg kj23
        case measure => have := HK1.out; have := HJ17.out; have := HJ23.out; omega
        case rel => exact ⟨(y521), (x8_23), (wrap64 (x9_1 + 1)), (x489000_23), (x489001_23), (x489002_23), (x489003_23), vQ, vQ, H', ⟨by have := HK1.out; have := HJ17.out; have := HJ23.out; omega⟩, ⟨mQ HO523⟩, ⟨kQ⟩, ⟨bQ⟩⟩
       clear c29
       replace H := bS H
       obtain ⟨t514, A30, H⟩ := H
       try dsimp only at H
       by_cases c31 : t514 = true
       ·subst c31
        rw [if_pos rfl] at H
        refine iNc H ?_ ?_<;>clear H<;>intro H c32
        rotate_left
        ·exact absurd H (by simp)
        have LMc32 := aM c32
        clear c32
        obtain ⟨y515, hy515⟩ : ∃ y_ : List Int, y_ = (x7_1 ++ [10]) := ⟨_, rfl⟩
        replace H : (hornbookref04_strung.l0 kj23 a0 a1 y515 x8_23 (wrap64 ((wrap64 (x9_1 + 1)) + 1))) = some (r1, r2, r3, r4, r5, r6) := by first | (rw [hy515]; with_reducible exact H) | (have H2_ := (Option.bind_some _ _).symm.trans H; rw [hy515]; with_reducible exact H2_) | (have H2_ := (Option.bind_some _ _).symm.trans H; with_reducible exact H2_) | with_reducible exact H | (rw [hy515]; exact H) | exact H
        have Ny515 := aM hy515
        clear hy515
        have H' := aM H
        clear H
        go_wp2_with (first | ((with_reducible refine gC 59 ?_); refine gL (some 75) Tryz.func59 #[.string a0, .int .i64 (wrap64 (x9_1 + 1)), .int .u8 10] ?_; (with_reducible refine (hornbookref04_is.calls a0 (wrap64 (x9_1 + 1)) 10 true _ A30.out).mono ?_); rintro e w' ⟨rfl, ⟨nd, rfl⟩⟩; refine ⟨_, rfl, ?_⟩) | ((with_reducible refine gate_builtin (b := .append) (xs := #[.tmp 78, .tmp 80]) rfl ?_); at_builtin; refine Kd.R_append (Kd.int .u8) (w0 := w) w.heap.size rfl (.tmp 78) (.tmp 80) 78 5 (.int .u8 0) 1 rfl Tryz.underlying78 info5 rfl (by decide) (by omega) u7 x7_1 10 [.int .u8 10] (fun _ => True) (fun _ => False) rfl rfl ?aP (fun _ hk => hk.elim) ?aF ?aO ?aB ?aS ?aL ?_; (case aP => exact rfl); (case aB => exact bQ); (case aF => exact (fun _ _ => trivial)); (case aO => exact (mQ HO_7)); (case aS => exact (below_size bQ)); (case aL => have := LMc32.out; omega); intro v516 w33 ho hb hg hat; rw [← Ny515.out] at ho; have n0_ := aM (blk_grown (g := gb488) (o := .cells #[.int .i64 x489000_23, .int .i64 x489001_23, .int .i64 x489002_23, .string x489003_23] 65 (0, 0)) kQ hg (Kd.R_ne HO_7.out BK488.out (by decide))); have n1_ := aM hb; have n2_ := aM ho; clear BK488; clear HB; clear HO_7; have BK488 := n0_; have HB := n1_; have HO517 := n2_; clear n0_ n1_ n2_; clear ho hb hg hat))
        go_roundg kj23
        case measure => have := HK1.out; have := HJ17.out; have := HJ23.out; omega
        case rel => exact ⟨(y515), (x8_23), (wrap64 ((wrap64 (x9_1 + 1)) + 1)), (x489000_23), (x489001_23), (x489002_23), (x489003_23), vQ, vQ, H', ⟨by have := HK1.out; have := HJ17.out; have := HJ23.out; omega⟩, ⟨mQ HO517⟩, ⟨kQ⟩, ⟨bQ⟩⟩
       replace c31 := Bool.eq_false_iff.mpr c31
       subst c31
       rw [if_neg (show ¬ (false = true) by decide)] at H
       refine iNc H ?_ ?_<;>clear H<;>intro H c34
       rotate_left
       ·exact absurd H (by simp)
       have LMc34 := aM c34
       clear c34
       obtain ⟨y518, hy518⟩ : ∃ y_ : List Int, y_ = (x7_1 ++ [10]) := ⟨_, rfl⟩
       replace H : (hornbookref04_strung.l0 kj23 a0 a1 y518 x8_23 (wrap64 (x9_1 + 1))) = some (r1, r2, r3, r4, r5, r6) := by first | (rw [hy518]; with_reducible exact H) | (have H2_ := (Option.bind_some _ _).symm.trans H; rw [hy518]; with_reducible exact H2_) | (have H2_ := (Option.bind_some _ _).symm.trans H; with_reducible exact H2_) | with_reducible exact H | (rw [hy518]; exact H) | exact H
       have Ny518 := aM hy518
       clear hy518
       have H' := aM H
       clear H
       go_wp2_with (first | ((with_reducible refine gC 59 ?_); refine gL (some 75) Tryz.func59 #[.string a0, .int .i64 (wrap64 (x9_1 + 1)), .int .u8 10] ?_; (with_reducible refine (hornbookref04_is.calls a0 (wrap64 (x9_1 + 1)) 10 false _ A30.out).mono ?_); rintro e w' ⟨rfl, ⟨nd, rfl⟩⟩; refine ⟨_, rfl, ?_⟩) | ((with_reducible refine gate_builtin (b := .append) (xs := #[.tmp 78, .tmp 80]) rfl ?_); at_builtin; refine Kd.R_append (Kd.int .u8) (w0 := w) w.heap.size rfl (.tmp 78) (.tmp 80) 78 5 (.int .u8 0) 1 rfl Tryz.underlying78 info5 rfl (by decide) (by omega) u7 x7_1 10 [.int .u8 10] (fun _ => True) (fun _ => False) rfl rfl ?aP (fun _ hk => hk.elim) ?aF ?aO ?aB ?aS ?aL ?_; (case aP => exact rfl); (case aB => exact bQ); (case aF => exact (fun _ _ => trivial)); (case aO => exact (mQ HO_7)); (case aS => exact (below_size bQ)); (case aL => have := LMc34.out; omega); intro v519 w35 ho hb hg hat; rw [← Ny518.out] at ho; have n0_ := aM (blk_grown (g := gb488) (o := .cells #[.int .i64 x489000_23, .int .i64 x489001_23, .int .i64 x489002_23, .string x489003_23] 65 (0, 0)) kQ hg (Kd.R_ne HO_7.out BK488.out (by decide))); have n1_ := aM hb; have n2_ := aM ho; clear BK488; clear HB; clear HO_7; have BK488 := n0_; have HB := n1_; have HO520 := n2_; clear n0_ n1_ n2_; clear ho hb hg hat))
       go_roundg kj23
       case measure => have := HK1.out; have := HJ17.out; have := HJ23.out; omega
       case rel => exact ⟨(y518), (x8_23), (wrap64 (x9_1 + 1)), (x489000_23), (x489001_23), (x489002_23), (x489003_23), vQ, vQ, H', ⟨by have := HK1.out; have := HJ17.out; have := HJ23.out; omega⟩, ⟨mQ HO520⟩, ⟨kQ⟩, ⟨bQ⟩⟩
end Go.Proofs.YtdcldaknmenklaaGreatDoor.M
end
section
/- Laid by this session's program hbprint.py out of the translation: the function hornbook/hornbookref03.Int and its contract. -/
namespace Go.Proofs.YtdcldaknmenklaaGreatDoor.M
open Go.RowKit Go.Proofs.YtdcldaknmenklaaGreatDoorW.PrintWords Go.Proofs.YtdcldaknmenklaaGreatDoorW.PrintLast Go.Proofs.YtdcldaknmenklaaGreatDoorW.PrintMore
attribute [local go_sem] max2_int min2_int max_two min_two max_three min_three max_four min_four
set_option linter.unusedVariables false
set_option linter.unusedSimpArgs false
mutual
def hornbookref03_Int.j0 : Nat → ByteArray → Int → Bool → Option (Int × Int)
 | 0, _, _, _ => none
 | k + 1, x0, x4, x19 => if x19 = true then (hornbookref03_Int.j1 k x0 1) else (hornbookref03_Int.j1 k x0 x4)
def hornbookref03_Int.j1 : Nat → ByteArray → Int → Option (Int × Int)
 | 0, _, _ => none
 | k + 1, x0, x4 => if x4 = (x0.size : Int) then (some (0, 3)) else (hornbookref03_Int.l0 k x0 0 x4)
def hornbookref03_Int.l0 : Nat → ByteArray → Int → Int → Option (Int × Int)
 | 0, _, _, _ => none
 | k + 1, x0, x5, x6 => if x6 < (x0.size : Int) then (if 0 ≤ x6 then (if (bt x0 x6) < 48 then (some (0, 3)) else (if (bt x0 x6) > 57 then (some (0, 3)) else (hornbookref03_Int.l0 k x0 (mn (wrap64 ((wrap64 (x5 * 10)) + (((bt x0 x6) - 48) % 256))) 1099511627776) (wrap64 (x6 + 1))))) else (none)) else (if 0 < (x0.size : Int) then (if (bt x0 0) = 45 then (if (wrap64 (-x5)) < (-2147483648) then (some (0, 4)) else (if (wrap64 (-x5)) > 2147483647 then (some (0, 4)) else (some (wrap64 (-x5), 0)))) else (if x5 < (-2147483648) then (some (0, 4)) else (if x5 > 2147483647 then (some (0, 4)) else (some (x5, 0))))) else (none))
end
def hornbookref03_Int.f (k : Nat) (a0 : ByteArray) : Option (Int × Int) := if (a0.size : Int) > 0 then (if 0 < (a0.size : Int) then (if (bt a0 0) = 43 then (hornbookref03_Int.j0 k a0 0 true) else (hornbookref03_Int.j0 k a0 0 ((bt a0 0) == 45))) else (none)) else (hornbookref03_Int.j0 k a0 0 false)
set_option maxHeartbeats 8000000 in
set_option maxRecDepth 100000 in
theorem hornbookref03_Int.calls (k : Nat) (a0 : ByteArray) (r1 : Int) (r2 : Int) (w : World) (h : hornbookref03_Int.f k a0 = some (r1, r2)) :
  Calls Tryz.prog 97 #[.string a0] w fun e w' => e = .returned (.tuple #[.int .i64 r1, .int .i64 r2]) ∧ Below w.heap.size w w' := by
 have HB := aM (Below.refl w.heap.size w)
 have H : (if (a0.size : Int) > 0 then (if 0 < (a0.size : Int) then (if (bt a0 0) = 43 then (hornbookref03_Int.j0 k a0 0 true) else (hornbookref03_Int.j0 k a0 0 ((bt a0 0) == 45))) else (none)) else (hornbookref03_Int.j0 k a0 0 false)) = some (r1, r2) := h
 clear h
 have HC2 := aM H
 clear H
 go_enter Tryz.func97, Tryz.ntmps97
 go_upto_region 2 with (fail)
 go_cut [19] (fun v19 wc => ∃ (kq : Nat) (x19_1 : Bool), v19 = .bool x19_1 ∧ Aside0 (hornbookref03_Int.j0 kq a0 0 x19_1 = some (r1, r2)) ∧ Aside0 (kq ≤ k) ∧ Aside0 (Below w.heap.size w wc))
 case first =>
  have H := HC2.out
  clear HC2
  refine iNc H ?_ ?_<;>clear H<;>intro H c3
  rotate_left
  ·have c3b0 : decide (0 < (a0.size : Int)) = false := decide_eq_false c3
   have c3b1 : decide (0 < a0.size) = false := decide_eq_false (by omega)
   clear c3
   (first | rw [c3b0] | (simp only [i64_w, i32_w]; rw [c3b0]) | skip)
   have H' := aM H
   clear H
   go_wp2
   go_meet
   case rel => exact ⟨_, (false), vQ, H', ⟨by first | omega | exact Nat.le_refl _⟩, ⟨bQ⟩⟩
  have c3b0 : decide (0 < (a0.size : Int)) = true := decide_eq_true c3
  have c3b1 : decide (0 < a0.size) = true := decide_eq_true (by omega)
  clear c3
  (first | rw [c3b0] | (simp only [i64_w, i32_w]; rw [c3b0]) | skip)
  refine iDc H ?_ ?_<;>clear H<;>intro H c4b0 c4
  rotate_left
  ·exact absurd H (by simp)
  have c4b1 : decide (0 < a0.size) = true := decide_eq_true (by omega)
  clear c4
  refine iEc H ?_ ?_<;>clear H<;>intro H c6b0 c6b1 c6
  ·clear c6
   have H' := aM H
   clear H
   have p5 : 0 ≤ (0 : Int) := (by omega)
   have q5 : 0 < a0.size := (by have : (0 : Int) < (a0.size : Int) := of_decide_eq_true hQ; omega)
   have hx5 : ∀ h : 0 < a0.size, ((a0[0]'h).toNat : Int) = bt a0 0 := bt_at a0 0
   clear p5
   have qi5 : (0 < (a0.size : Int)) = True := eq_true (of_decide_eq_true hQ)
   replace q5 := eq_true q5
   go_wp2
   go_meet
   case rel => exact ⟨_, (true), vQ, H', ⟨by first | omega | exact Nat.le_refl _⟩, ⟨bQ⟩⟩
  have H' := aM H
  clear H
  have p5 : 0 ≤ (0 : Int) := (by omega)
  have q5 : 0 < a0.size := (by have : (0 : Int) < (a0.size : Int) := of_decide_eq_true hQ; omega)
  have hx5 : ∀ h : 0 < a0.size, ((a0[0]'h).toNat : Int) = bt a0 0 := bt_at a0 0
  clear p5
  have qi5 : (0 < (a0.size : Int)) = True := eq_true (of_decide_eq_true hQ)
  replace q5 := eq_true q5
  have p7 : 0 ≤ (0 : Int) := (by omega)
  have q7 : 0 < a0.size := (by have : (0 : Int) < (a0.size : Int) := of_decide_eq_true hQ; omega)
  have hx7 : ∀ h : 0 < a0.size, ((a0[0]'h).toNat : Int) = bt a0 0 := bt_at a0 0
  clear p7
  have qi7 : (0 < (a0.size : Int)) = True := eq_true (of_decide_eq_true hQ)
  replace q7 := eq_true q7
  go_wp2
  go_meet
  case rel => exact ⟨_, (((bt a0 0) == 45)), vQ, H', ⟨by first | omega | exact Nat.le_refl _⟩, ⟨bQ⟩⟩
 case rest =>
  clear HC2
  try clear p2
  try clear c3
  try clear c3b0
  try clear c3b1
  try clear c4
  try clear c4b0
  try clear c4b1
  try clear p5
  try clear q5
  try clear hx5
  try clear qi5
  try clear c6
  try clear c6b0
  try clear c6b1
  try clear p7
  try clear q7
  try clear hx7
  try clear qi7
  try clear p5
  try clear p7
  try clear q5
  try clear q7
  obtain ⟨kq, x19_1, rfl, HA, HJ1, HB⟩ := hcut
  cases kq with
  | zero => exact absurd HA.out (by simp [hornbookref03_Int.j0])
  | succ kj1 =>
   have H := HA.out
   clear HA
   simp only [hornbookref03_Int.j0] at H
   have HC8 := aM H
   clear H
   go_upto_if 19 with (fail)
   go_cut [4] (fun v4 wc => ∃ (kq : Nat) (x4_7 : Int), v4 = .int .i64 x4_7 ∧ Aside0 (hornbookref03_Int.j1 kq a0 x4_7 = some (r1, r2)) ∧ Aside0 (kq ≤ kj1) ∧ Aside0 (Below w.heap.size w wc))
   case first =>
    have H := HC8.out
    clear HC8
    by_cases c9 : x19_1 = true
    ·subst c9
     rw [if_pos rfl] at H
     have H' := aM H
     clear H
     go_wp2
     go_meet
     case rel => exact ⟨_, (1), vQ, H', ⟨by have := HJ1.out; first | omega | exact Nat.le_refl _⟩, ⟨bQ⟩⟩
    replace c9 := Bool.eq_false_iff.mpr c9
    subst c9
    rw [if_neg (show ¬ (false = true) by decide)] at H
    have H' := aM H
    clear H
    go_wp2
    go_meet
    case rel => exact ⟨_, (0), vQ, H', ⟨by have := HJ1.out; first | omega | exact Nat.le_refl _⟩, ⟨bQ⟩⟩
   case rest =>
    clear HC8
    try clear p2
    try clear c3
    try clear c3b0
    try clear c3b1
    try clear c4
    try clear c4b0
    try clear c4b1
    try clear p5
    try clear q5
    try clear hx5
    try clear qi5
    try clear c6
    try clear c6b0
    try clear c6b1
    try clear p7
    try clear q7
    try clear hx7
    try clear qi7
    try clear c9
    try clear p2
    try clear p5
    try clear p7
    try clear q5
    try clear q7
    obtain ⟨kq, x4_7, rfl, HA, HJ7, HB⟩ := hcut
    cases kq with
    | zero => exact absurd HA.out (by simp [hornbookref03_Int.j1])
    | succ kj7 =>
     have H := HA.out
     clear HA
     simp only [hornbookref03_Int.j1] at H
     refine iEc H ?_ ?_<;>clear H<;>intro H c10b0 c10b1 c10
     ·clear c10
      simp only [Option.some.injEq, Prod.mk.injEq] at H
      obtain ⟨rfl, rfl⟩ := H
      go_wp2
      go_ret2
      exact ⟨eQ, bQ⟩
     have H' := aM H
     clear H
     go_wp2
     go_loopg [5, 6] kj7 (fun kq v5 v6 w' => ∃ (x5_3 : Int) (x6_3 : Int), v5 = .int .i64 x5_3 ∧ v6 = .int .i64 x6_3 ∧ Aside0 (hornbookref03_Int.l0 kq a0 x5_3 x6_3 = some (r1, r2)) ∧ Aside0 (kq ≤ kj7) ∧ Aside0 (Below w.heap.size w w'))
     case atStart => exact ⟨(0), (x4_7), vQ, vQ, H', ⟨Nat.le_refl _⟩, ⟨bQ⟩⟩
     case round =>
      clear H'
      try clear c1
      try clear p2
      try clear c3
      try clear c3b0
      try clear c3b1
      try clear c4
      try clear c4b0
      try clear c4b1
      try clear p5
      try clear q5
      try clear hx5
      try clear qi5
      try clear c6
      try clear c6b0
      try clear c6b1
      try clear p7
      try clear q7
      try clear hx7
      try clear qi7
      try clear c9
      try clear c10
      try clear c10b0
      try clear c10b1
      try clear p2
      try clear p5
      try clear p7
      try clear q5
      try clear q7
      obtain ⟨x5_3, x6_3, rfl, rfl, HA, HK3, HB⟩ := hrel
      cases gk with
      | zero => exact absurd HA.out (by simp [hornbookref03_Int.l0])
      | succ k3 =>
       have H := HA.out
       clear HA
       simp only [hornbookref03_Int.l0] at H
       refine iD H ?_ ?_<;>clear H<;>intro H c11b0
       ·refine iD H ?_ ?_<;>clear H<;>intro H c12b0
        rotate_left
        ·exact absurd H (by simp)
        refine iD H ?_ ?_<;>clear H<;>intro H c14b0
        ·simp only [Option.some.injEq, Prod.mk.injEq] at H
         obtain ⟨rfl, rfl⟩ := H
         have p13 : 0 ≤ (x6_3 : Int) := of_decide_eq_true hQ
         have q13 : x6_3 < (a0.size : Int) := of_decide_eq_true hQ
         have hx13 := bt_at a0 x6_3
         replace p13 := eq_true p13
         replace q13 := eq_true q13
         go_wp2
         go_ret2
         exact ⟨eQ, bQ⟩
        refine iNc H ?_ ?_<;>clear H<;>intro H c16
        ·have c16b0 : decide (57 < (bt a0 x6_3)) = true := decide_eq_true c16
         clear c16
         simp only [Option.some.injEq, Prod.mk.injEq] at H
         obtain ⟨rfl, rfl⟩ := H
         have p13 : 0 ≤ (x6_3 : Int) := of_decide_eq_true hQ
         have q13 : x6_3 < (a0.size : Int) := of_decide_eq_true hQ
         have hx13 := bt_at a0 x6_3
         replace p13 := eq_true p13
         replace q13 := eq_true q13
         have p15 : 0 ≤ (x6_3 : Int) := of_decide_eq_true hQ
         have q15 : x6_3 < (a0.size : Int) := of_decide_eq_true hQ
         have hx15 := bt_at a0 x6_3
         replace p15 := eq_true p15
         replace q15 := eq_true q15
         go_wp2
         go_ret2
         exact ⟨eQ, bQ⟩
        have c16b0 : decide (57 < (bt a0 x6_3)) = false := decide_eq_false c16
        clear c16
        obtain ⟨ji18, hji18⟩ : ∃ j_ : Int, (mn (wrap64 ((wrap64 (x5_3 * 10)) + (((bt a0 x6_3) - 48) % 256))) 1099511627776) = j_ := ⟨_, rfl⟩
        replace H : (hornbookref03_Int.l0 k3 a0 ji18 (wrap64 (x6_3 + 1))) = some (r1, r2) := by first | (rw [hji18] at H; exact H) | (simp only [hji18] at H ⊢; exact H)
        have hji18_ : (if 1099511627776 < (wrap64 ((wrap64 (x5_3 * 10)) + (((bt a0 x6_3) - 48) % 256))) then 1099511627776 else (wrap64 ((wrap64 (x5_3 * 10)) + (((bt a0 x6_3) - 48) % 256)))) = ji18 := hji18
        have H' := aM H
        clear H
        have p13 : 0 ≤ (x6_3 : Int) := of_decide_eq_true hQ
        have q13 : x6_3 < (a0.size : Int) := of_decide_eq_true hQ
        have hx13 := bt_at a0 x6_3
        replace p13 := eq_true p13
        replace q13 := eq_true q13
        have p15 : 0 ≤ (x6_3 : Int) := of_decide_eq_true hQ
        have q15 : x6_3 < (a0.size : Int) := of_decide_eq_true hQ
        have hx15 := bt_at a0 x6_3
        replace p15 := eq_true p15
        replace q15 := eq_true q15
        have p17 : 0 ≤ (x6_3 : Int) := of_decide_eq_true hQ
        have q17 : x6_3 < (a0.size : Int) := of_decide_eq_true hQ
        have hx17 := bt_at a0 x6_3
        replace p17 := eq_true p17
        replace q17 := eq_true q17
        go_wp2
        go_roundg k3
        case measure => have := HJ1.out; have := HJ7.out; have := HK3.out; omega
        case rel => exact ⟨(ji18), (wrap64 (x6_3 + 1)), (by first | rfl | (simp; done) | (simp only [← hji18] <;> (first | rfl | simp)) | (simp [*]; done)), vQ, H', ⟨by have := HJ1.out; have := HJ7.out; have := HK3.out; omega⟩, ⟨bQ⟩⟩
       refine iDc H ?_ ?_<;>clear H<;>intro H c19b0 c19
       rotate_left
       ·exact absurd H (by simp)
       have c19b1 : decide (0 < a0.size) = true := decide_eq_true (by omega)
       clear c19
       refine iEc H ?_ ?_<;>clear H<;>intro H c21b0 c21b1 c21
       rotate_left
       ·refine iD H ?_ ?_<;>clear H<;>intro H c24b0
        ·simp only [Option.some.injEq, Prod.mk.injEq] at H
         obtain ⟨rfl, rfl⟩ := H
         have p20 : 0 ≤ (0 : Int) := (by omega)
         have q20 : 0 < a0.size := (by have : (0 : Int) < (a0.size : Int) := of_decide_eq_true hQ; omega)
         have hx20 : ∀ h : 0 < a0.size, ((a0[0]'h).toNat : Int) = bt a0 0 := bt_at a0 0
         clear p20
         have qi20 : (0 < (a0.size : Int)) = True := eq_true (of_decide_eq_true hQ)
         replace q20 := eq_true q20
         go_wp2
         go_ret2
         exact ⟨eQ, bQ⟩
        refine iNc H ?_ ?_<;>clear H<;>intro H c25
        ·have c25b0 : decide (2147483647 < x5_3) = true := decide_eq_true c25
         clear c25
         simp only [Option.some.injEq, Prod.mk.injEq] at H
         obtain ⟨rfl, rfl⟩ := H
         have p20 : 0 ≤ (0 : Int) := (by omega)
         have q20 : 0 < a0.size := (by have : (0 : Int) < (a0.size : Int) := of_decide_eq_true hQ; omega)
         have hx20 : ∀ h : 0 < a0.size, ((a0[0]'h).toNat : Int) = bt a0 0 := bt_at a0 0
         clear p20
         have qi20 : (0 < (a0.size : Int)) = True := eq_true (of_decide_eq_true hQ)
         replace q20 := eq_true q20
         go_wp2
         go_ret2
         exact ⟨eQ, bQ⟩
        have c25b0 : decide (2147483647 < x5_3) = false := decide_eq_false c25
        clear c25
        simp only [Option.some.injEq, Prod.mk.injEq] at H
        obtain ⟨rfl, rfl⟩ := H
        have p20 : 0 ≤ (0 : Int) := (by omega)
        have q20 : 0 < a0.size := (by have : (0 : Int) < (a0.size : Int) := of_decide_eq_true hQ; omega)
        have hx20 : ∀ h : 0 < a0.size, ((a0[0]'h).toNat : Int) = bt a0 0 := bt_at a0 0
        clear p20
        have qi20 : (0 < (a0.size : Int)) = True := eq_true (of_decide_eq_true hQ)
        replace q20 := eq_true q20
        go_wp2
        go_ret2
        exact ⟨eQ, bQ⟩
       clear c21
       refine iD H ?_ ?_<;>clear H<;>intro H c22b0
       ·simp only [Option.some.injEq, Prod.mk.injEq] at H
        obtain ⟨rfl, rfl⟩ := H
        have p20 : 0 ≤ (0 : Int) := (by omega)
        have q20 : 0 < a0.size := (by have : (0 : Int) < (a0.size : Int) := of_decide_eq_true hQ; omega)
        have hx20 : ∀ h : 0 < a0.size, ((a0[0]'h).toNat : Int) = bt a0 0 := bt_at a0 0
        clear p20
        have qi20 : (0 < (a0.size : Int)) = True := eq_true (of_decide_eq_true hQ)
        replace q20 := eq_true q20
        go_wp2
        go_ret2
        exact ⟨eQ, bQ⟩
       refine iNc H ?_ ?_<;>clear H<;>intro H c23
       ·have c23b0 : decide (2147483647 < (wrap64 (-x5_3))) = true := decide_eq_true c23
        clear c23
        simp only [Option.some.injEq, Prod.mk.injEq] at H
        obtain ⟨rfl, rfl⟩ := H
        have p20 : 0 ≤ (0 : Int) := (by omega)
        have q20 : 0 < a0.size := (by have : (0 : Int) < (a0.size : Int) := of_decide_eq_true hQ; omega)
        have hx20 : ∀ h : 0 < a0.size, ((a0[0]'h).toNat : Int) = bt a0 0 := bt_at a0 0
        clear p20
        have qi20 : (0 < (a0.size : Int)) = True := eq_true (of_decide_eq_true hQ)
        replace q20 := eq_true q20
        go_wp2
        go_ret2
        exact ⟨eQ, bQ⟩
       have c23b0 : decide (2147483647 < (wrap64 (-x5_3))) = false := decide_eq_false c23
       clear c23
       simp only [Option.some.injEq, Prod.mk.injEq] at H
       obtain ⟨rfl, rfl⟩ := H
       have p20 : 0 ≤ (0 : Int) := (by omega)
       have q20 : 0 < a0.size := (by have : (0 : Int) < (a0.size : Int) := of_decide_eq_true hQ; omega)
       have hx20 : ∀ h : 0 < a0.size, ((a0[0]'h).toNat : Int) = bt a0 0 := bt_at a0 0
       clear p20
       have qi20 : (0 < (a0.size : Int)) = True := eq_true (of_decide_eq_true hQ)
       replace q20 := eq_true q20
       go_wp2
       go_ret2
       exact ⟨eQ, bQ⟩
end Go.Proofs.YtdcldaknmenklaaGreatDoor.M
end
section
namespace Go.Proofs.YtdcldaknmenklaaGreatDoor.M
open Go.RowKit Go.Proofs.YtdcldaknmenklaaGreatDoorW.PrintWords Go.Proofs.YtdcldaknmenklaaGreatDoorW.PrintLast Go.Proofs.YtdcldaknmenklaaGreatDoorW.PrintMore
attribute [local go_sem] max2_int min2_int max_two min_two max_three min_three max_four min_four
set_option linter.unusedVariables false
set_option linter.unusedSimpArgs false
def hornbookref04_worded.f (k : Nat) (a0 : ByteArray) (a1 : Int) : Option (Int × Int × Int × ByteArray × Int × Int) := (hornbookref03_Word.f k a0 a1).bind fun bt525 => ((hornbookref03_Int.f k bt525.1).bind fun bt527 => (if bt527.2 = 4 then ((hornbookref04_fail.f a1 bt527.2).bind fun bt529 => (some (bt529.1, bt529.2.1, bt529.2.2.1, bt529.2.2.2.1, bt529.2.2.2.2.1, bt529.2.2.2.2.2))) else (if bt527.2 = 0 then (some (1, a1, bt527.1, (⟨#[]⟩ : ByteArray), bt525.2, 0)) else (some (3, a1, 0, bt525.1, bt525.2, 0)))))
set_option maxHeartbeats 8000000 in
set_option maxRecDepth 100000 in
theorem hornbookref04_worded.calls (k : Nat) (a0 : ByteArray) (a1 : Int) (r1 : Int) (r2 : Int) (r3 : Int) (r4 : ByteArray) (r5 : Int) (r6 : Int) (w : World) (h : hornbookref04_worded.f k a0 a1 = some (r1, r2, r3, r4, r5, r6)) :
  Calls Tryz.prog 64 #[.string a0, .int .i64 a1] w fun e w' => e = .returned (.tuple #[.agg #[.int .i64 r1, .int .i64 r2, .int .i64 r3, .string r4], .int .i64 r5, .int .i64 r6]) ∧ Below w.heap.size w w' := by
 have hu65 := Tryz.underlying65
 have HB := aM (Below.refl w.heap.size w)
 have H : ((hornbookref03_Word.f k a0 a1).bind fun bt525 => ((hornbookref03_Int.f k bt525.1).bind fun bt527 => (if bt527.2 = 4 then ((hornbookref04_fail.f a1 bt527.2).bind fun bt529 => (some (bt529.1, bt529.2.1, bt529.2.2.1, bt529.2.2.2.1, bt529.2.2.2.2.1, bt529.2.2.2.2.2))) else (if bt527.2 = 0 then (some (1, a1, bt527.1, (⟨#[]⟩ : ByteArray), bt525.2, 0)) else (some (3, a1, 0, bt525.1, bt525.2, 0)))))) = some (r1, r2, r3, r4, r5, r6) := h
 clear h
 replace H := bS H
 obtain ⟨⟨t525, t526⟩, A3, H⟩ := H
 try dsimp only at H
 replace H := bS H
 obtain ⟨⟨t527, t528⟩, A4, H⟩ := H
 try dsimp only at H
 refine iEc H ?_ ?_<;>clear H<;>intro H c5b0 c5b1 c5
 ·clear c5
  replace H := bS H
  obtain ⟨⟨t529, t530, t531, t532, t533, t534⟩, A6, H⟩ := H
  try dsimp only at H
  simp only [Option.some.injEq, Prod.mk.injEq] at H
  obtain ⟨rfl, rfl, rfl, rfl, rfl, rfl⟩ := H
  go_enter Tryz.func64, Tryz.ntmps64
  go_wp2_with (first | ((with_reducible refine gD 4 ?_); refine bE 4 (cs := #[.int .i64 0, .int .i64 0, .int .i64 0, .string (⟨#[]⟩ : ByteArray)]) (t := 65) ?_; intro gb524 hg w7 hbox hb; have BK524 := aM hbox; have GW524 := sG w hg; have GE524 := sG w hg; replace HB := sB hb; clear hb hbox hg) | ((with_reducible refine gC 60 ?_); refine gL (some 14) Tryz.func60 #[.string a0, .int .i64 a1] ?_; (with_reducible refine cB (hornbookref03_Word.calls k a0 a1 t525 t526 _ A3.out) ?_); intro w8 hb; replace BK524 := kK BK524 hb; replace HB := sB hb; clear hb) | ((with_reducible refine gC 97 ?_); refine gL (some 19) Tryz.func97 #[.string t525] ?_; (with_reducible refine cB (hornbookref03_Int.calls k t525 t527 t528 _ A4.out) ?_); intro w9 hb; replace BK524 := kK BK524 hb; replace HB := sB hb; clear hb) | ((with_reducible refine gC 58 ?_); refine gL (some 26) Tryz.func58 #[.int .i64 a1, .int .i64 t528] ?_; (with_reducible refine cB (hornbookref04_fail.calls a1 t528 t529 t530 t531 t532 t533 t534 _ A6.out) ?_); intro w10 hb; replace BK524 := kK BK524 hb; replace HB := sB hb; clear hb; obtain ⟨hcz11_0, hcz11_1, hcz11_2, hcz11_3, hfz11_0, hfz11_1, hfz11_2, hfz11_3⟩ := b4 BK524))
  refine bodyPost_ret (results_ctt rfl _ _ gb524 65 #[.int .i64 t529, .int .i64 t530, .int .i64 t531, .string t532] (0, 0) _ rfl kQ Tryz.underlying65 rfl (by kernel_rfl)) rfl ?_
  exact ⟨eQ, bQ⟩
 refine iEc H ?_ ?_<;>clear H<;>intro H c12b0 c12b1 c12
 rotate_left
 ·simp only [Option.some.injEq, Prod.mk.injEq] at H
  obtain ⟨rfl, rfl, rfl, rfl, rfl, rfl⟩ := H
  go_enter Tryz.func64, Tryz.ntmps64
  go_wp2_with (first | ((with_reducible refine gD 4 ?_); refine bE 4 (cs := #[.int .i64 0, .int .i64 0, .int .i64 0, .string (⟨#[]⟩ : ByteArray)]) (t := 65) ?_; intro gb524 hg w17 hbox hb; have BK524 := aM hbox; have GW524 := sG w hg; have GE524 := sG w hg; replace HB := sB hb; clear hb hbox hg) | ((with_reducible refine gC 60 ?_); refine gL (some 14) Tryz.func60 #[.string a0, .int .i64 a1] ?_; (with_reducible refine cB (hornbookref03_Word.calls k a0 a1 t525 t526 _ A3.out) ?_); intro w18 hb; replace BK524 := kK BK524 hb; replace HB := sB hb; clear hb) | ((with_reducible refine gC 97 ?_); refine gL (some 19) Tryz.func97 #[.string t525] ?_; (with_reducible refine cB (hornbookref03_Int.calls k t525 t527 t528 _ A4.out) ?_); intro w19 hb; replace BK524 := kK BK524 hb; replace HB := sB hb; clear hb; obtain ⟨hcz20_0, hcz20_1, hcz20_2, hcz20_3, hfz20_0, hfz20_1, hfz20_2, hfz20_3⟩ := b4 BK524))
  refine bodyPost_ret (results_ctt rfl _ _ gb524 65 #[.int .i64 3, .int .i64 a1, .int .i64 0, .string t525] (0, 0) _ rfl kQ Tryz.underlying65 rfl (by kernel_rfl)) rfl ?_
  exact ⟨eQ, bQ⟩
 clear c12
 simp only [Option.some.injEq, Prod.mk.injEq] at H
 obtain ⟨rfl, rfl, rfl, rfl, rfl, rfl⟩ := H
 go_enter Tryz.func64, Tryz.ntmps64
 go_wp2_with (first | ((with_reducible refine gD 4 ?_); refine bE 4 (cs := #[.int .i64 0, .int .i64 0, .int .i64 0, .string (⟨#[]⟩ : ByteArray)]) (t := 65) ?_; intro gb524 hg w13 hbox hb; have BK524 := aM hbox; have GW524 := sG w hg; have GE524 := sG w hg; replace HB := sB hb; clear hb hbox hg) | ((with_reducible refine gC 60 ?_); refine gL (some 14) Tryz.func60 #[.string a0, .int .i64 a1] ?_; (with_reducible refine cB (hornbookref03_Word.calls k a0 a1 t525 t526 _ A3.out) ?_); intro w14 hb; replace BK524 := kK BK524 hb; replace HB := sB hb; clear hb) | ((with_reducible refine gC 97 ?_); refine gL (some 19) Tryz.func97 #[.string t525] ?_; (with_reducible refine cB (hornbookref03_Int.calls k t525 t527 t528 _ A4.out) ?_); intro w15 hb; replace BK524 := kK BK524 hb; replace HB := sB hb; clear hb; obtain ⟨hcz16_0, hcz16_1, hcz16_2, hcz16_3, hfz16_0, hfz16_1, hfz16_2, hfz16_3⟩ := b4 BK524))
 refine bodyPost_ret (results_ctt rfl _ _ gb524 65 #[.int .i64 1, .int .i64 a1, .int .i64 t527, .string (⟨#[]⟩ : ByteArray)] (0, 0) _ rfl kQ Tryz.underlying65 rfl (by kernel_rfl)) rfl ?_
 exact ⟨eQ, bQ⟩
def hornbookref04_Next.f (k : Nat) (a0 : ByteArray) (a1 : Int) : Option (Int × Int × Int × ByteArray × Int × Int) := (hornbookref03_Skip.f k a0 a1).bind fun t536 => (if t536 = (a0.size : Int) then (some (0, t536, 0, (⟨#[]⟩ : ByteArray), t536, 0)) else (if 0 ≤ t536 then (if t536 < (a0.size : Int) then (if (bt a0 t536) = 91 then (some (6, t536, 0, (⟨#[]⟩ : ByteArray), wrap64 (t536 + 1), 0)) else (if (bt a0 t536) = 93 then (some (7, t536, 0, (⟨#[]⟩ : ByteArray), wrap64 (t536 + 1), 0)) else (if (bt a0 t536) = 123 then (some (10, t536, 0, (⟨#[]⟩ : ByteArray), wrap64 (t536 + 1), 0)) else (if (bt a0 t536) = 125 then (some (11, t536, 0, (⟨#[]⟩ : ByteArray), wrap64 (t536 + 1), 0)) else (if (bt a0 t536) = 41 then ((hornbookref04_fail.f t536 3).bind fun bt537 => (some (bt537.1, bt537.2.1, bt537.2.2.1, bt537.2.2.2.1, bt537.2.2.2.2.1, bt537.2.2.2.2.2))) else (if (bt a0 t536) = 62 then ((hornbookref04_is.f a0 (wrap64 (t536 + 1)) 62).bind fun t543 => (if t543 = true then (some (9, t536, 0, (⟨#[]⟩ : ByteArray), wrap64 (t536 + 2), 0)) else ((hornbookref04_fail.f t536 3).bind fun bt544 => (some (bt544.1, bt544.2.1, bt544.2.2.1, bt544.2.2.2.1, bt544.2.2.2.2.1, bt544.2.2.2.2.2))))) else (if (bt a0 t536) = 47 then ((hornbookref03_Word.f k a0 (wrap64 (t536 + 1))).bind fun bt550 => ((hornbookref03_Name.f k bt550.1).bind fun t552 => (some (2, t536, 0, t552, bt550.2, 0)))) else (if (bt a0 t536) = 60 then ((hornbookref04_is.f a0 (wrap64 (t536 + 1)) 60).bind fun t553 => (if t553 = true then (some (8, t536, 0, (⟨#[]⟩ : ByteArray), wrap64 (t536 + 2), 0)) else ((hornbookref04_hexed.f k a0 t536).bind fun bt554 => (some (bt554.1, bt554.2.1, bt554.2.2.1, bt554.2.2.2.1, bt554.2.2.2.2.1, bt554.2.2.2.2.2))))) else (if (bt a0 t536) = 40 then ((hornbookref04_strung.f k a0 t536).bind fun bt560 => (some (bt560.1, bt560.2.1, bt560.2.2.1, bt560.2.2.2.1, bt560.2.2.2.2.1, bt560.2.2.2.2.2))) else ((hornbookref04_worded.f k a0 t536).bind fun bt566 => (some (bt566.1, bt566.2.1, bt566.2.2.1, bt566.2.2.2.1, bt566.2.2.2.2.1, bt566.2.2.2.2.2)))))))))))) else (none)) else (none)))
set_option maxHeartbeats 8000000 in
set_option maxRecDepth 100000 in
theorem hornbookref04_Next.calls (k : Nat) (a0 : ByteArray) (a1 : Int) (r1 : Int) (r2 : Int) (r3 : Int) (r4 : ByteArray) (r5 : Int) (r6 : Int) (w : World) (h : hornbookref04_Next.f k a0 a1 = some (r1, r2, r3, r4, r5, r6)) :
  Calls Tryz.prog 39 #[.string a0, .int .i64 a1] w fun e w' => e = .returned (.tuple #[.agg #[.int .i64 r1, .int .i64 r2, .int .i64 r3, .string r4], .int .i64 r5, .int .i64 r6]) ∧ Below w.heap.size w w' := by
 have hu65 := Tryz.underlying65
 have HB := aM (Below.refl w.heap.size w)
 have H : ((hornbookref03_Skip.f k a0 a1).bind fun t536 => (if t536 = (a0.size : Int) then (some (0, t536, 0, (⟨#[]⟩ : ByteArray), t536, 0)) else (if 0 ≤ t536 then (if t536 < (a0.size : Int) then (if (bt a0 t536) = 91 then (some (6, t536, 0, (⟨#[]⟩ : ByteArray), wrap64 (t536 + 1), 0)) else (if (bt a0 t536) = 93 then (some (7, t536, 0, (⟨#[]⟩ : ByteArray), wrap64 (t536 + 1), 0)) else (if (bt a0 t536) = 123 then (some (10, t536, 0, (⟨#[]⟩ : ByteArray), wrap64 (t536 + 1), 0)) else (if (bt a0 t536) = 125 then (some (11, t536, 0, (⟨#[]⟩ : ByteArray), wrap64 (t536 + 1), 0)) else (if (bt a0 t536) = 41 then ((hornbookref04_fail.f t536 3).bind fun bt537 => (some (bt537.1, bt537.2.1, bt537.2.2.1, bt537.2.2.2.1, bt537.2.2.2.2.1, bt537.2.2.2.2.2))) else (if (bt a0 t536) = 62 then ((hornbookref04_is.f a0 (wrap64 (t536 + 1)) 62).bind fun t543 => (if t543 = true then (some (9, t536, 0, (⟨#[]⟩ : ByteArray), wrap64 (t536 + 2), 0)) else ((hornbookref04_fail.f t536 3).bind fun bt544 => (some (bt544.1, bt544.2.1, bt544.2.2.1, bt544.2.2.2.1, bt544.2.2.2.2.1, bt544.2.2.2.2.2))))) else (if (bt a0 t536) = 47 then ((hornbookref03_Word.f k a0 (wrap64 (t536 + 1))).bind fun bt550 => ((hornbookref03_Name.f k bt550.1).bind fun t552 => (some (2, t536, 0, t552, bt550.2, 0)))) else (if (bt a0 t536) = 60 then ((hornbookref04_is.f a0 (wrap64 (t536 + 1)) 60).bind fun t553 => (if t553 = true then (some (8, t536, 0, (⟨#[]⟩ : ByteArray), wrap64 (t536 + 2), 0)) else ((hornbookref04_hexed.f k a0 t536).bind fun bt554 => (some (bt554.1, bt554.2.1, bt554.2.2.1, bt554.2.2.2.1, bt554.2.2.2.2.1, bt554.2.2.2.2.2))))) else (if (bt a0 t536) = 40 then ((hornbookref04_strung.f k a0 t536).bind fun bt560 => (some (bt560.1, bt560.2.1, bt560.2.2.1, bt560.2.2.2.1, bt560.2.2.2.2.1, bt560.2.2.2.2.2))) else ((hornbookref04_worded.f k a0 t536).bind fun bt566 => (some (bt566.1, bt566.2.1, bt566.2.2.1, bt566.2.2.2.1, bt566.2.2.2.2.1, bt566.2.2.2.2.2)))))))))))) else (none)) else (none)))) = some (r1, r2, r3, r4, r5, r6) := h
 clear h
 replace H := bS H
 obtain ⟨t536, A3, H⟩ := H
 try dsimp only at H
 refine iEc H ?_ ?_<;>clear H<;>intro H c4b0 c4b1 c4
 ·clear c4
  simp only [Option.some.injEq, Prod.mk.injEq] at H
  obtain ⟨rfl, rfl, rfl, rfl, rfl, rfl⟩ := H
  go_enter Tryz.func39, Tryz.ntmps39
  go_wp2_with (first | ((with_reducible refine gD 4 ?_); refine bE 4 (cs := #[.int .i64 0, .int .i64 0, .int .i64 0, .string (⟨#[]⟩ : ByteArray)]) (t := 65) ?_; intro gb535 hg w5 hbox hb; have BK535 := aM hbox; have GW535 := sG w hg; have GE535 := sG w hg; replace HB := sB hb; clear hb hbox hg) | ((with_reducible refine gC 57 ?_); refine gL (some 12) Tryz.func57 #[.string a0, .int .i64 a1] ?_; (with_reducible refine cB (hornbookref03_Skip.calls k a0 a1 t536 _ A3.out) ?_); intro w6 hb; replace BK535 := kK BK535 hb; replace HB := sB hb; clear hb; obtain ⟨hcz7_0, hcz7_1, hcz7_2, hcz7_3, hfz7_0, hfz7_1, hfz7_2, hfz7_3⟩ := b4 BK535))
  refine bodyPost_ret (results_ctt rfl _ _ gb535 65 #[.int .i64 0, .int .i64 t536, .int .i64 0, .string (⟨#[]⟩ : ByteArray)] (0, 0) _ rfl kQ Tryz.underlying65 rfl (by kernel_rfl)) rfl ?_
  exact ⟨eQ, bQ⟩
 refine iD H ?_ ?_<;>clear H<;>intro H c8b0
 rotate_left
 ·exact absurd H (by simp)
 refine iD H ?_ ?_<;>clear H<;>intro H c9b0
 rotate_left
 ·exact absurd H (by simp)
 refine iEc H ?_ ?_<;>clear H<;>intro H c11b0 c11b1 c11
 ·clear c11
  simp only [Option.some.injEq, Prod.mk.injEq] at H
  obtain ⟨rfl, rfl, rfl, rfl, rfl, rfl⟩ := H
  go_enter Tryz.func39, Tryz.ntmps39
  go_wp2_with (first | ((with_reducible refine gD 4 ?_); refine bE 4 (cs := #[.int .i64 0, .int .i64 0, .int .i64 0, .string (⟨#[]⟩ : ByteArray)]) (t := 65) ?_; intro gb535 hg w12 hbox hb; have BK535 := aM hbox; have GW535 := sG w hg; have GE535 := sG w hg; replace HB := sB hb; clear hb hbox hg) | ((with_reducible refine gC 57 ?_); refine gL (some 12) Tryz.func57 #[.string a0, .int .i64 a1] ?_; (with_reducible refine cB (hornbookref03_Skip.calls k a0 a1 t536 _ A3.out) ?_); intro w13 hb; replace BK535 := kK BK535 hb; replace HB := sB hb; clear hb; have p10 : 0 ≤ (t536 : Int) := of_decide_eq_true hQ; have q10 : t536 < (a0.size : Int) := of_decide_eq_true hQ; have hx10 := bt_at a0 t536; replace p10 := eq_true p10; replace q10 := eq_true q10; obtain ⟨hcz14_0, hcz14_1, hcz14_2, hcz14_3, hfz14_0, hfz14_1, hfz14_2, hfz14_3⟩ := b4 BK535))
  refine bodyPost_ret (results_ctt rfl _ _ gb535 65 #[.int .i64 6, .int .i64 t536, .int .i64 0, .string (⟨#[]⟩ : ByteArray)] (0, 0) _ rfl kQ Tryz.underlying65 rfl (by kernel_rfl)) rfl ?_
  exact ⟨eQ, bQ⟩
 refine iEc H ?_ ?_<;>clear H<;>intro H c15b0 c15b1 c15
 ·clear c15
  simp only [Option.some.injEq, Prod.mk.injEq] at H
  obtain ⟨rfl, rfl, rfl, rfl, rfl, rfl⟩ := H
  go_enter Tryz.func39, Tryz.ntmps39
  go_wp2_with (first | ((with_reducible refine gD 4 ?_); refine bE 4 (cs := #[.int .i64 0, .int .i64 0, .int .i64 0, .string (⟨#[]⟩ : ByteArray)]) (t := 65) ?_; intro gb535 hg w16 hbox hb; have BK535 := aM hbox; have GW535 := sG w hg; have GE535 := sG w hg; replace HB := sB hb; clear hb hbox hg) | ((with_reducible refine gC 57 ?_); refine gL (some 12) Tryz.func57 #[.string a0, .int .i64 a1] ?_; (with_reducible refine cB (hornbookref03_Skip.calls k a0 a1 t536 _ A3.out) ?_); intro w17 hb; replace BK535 := kK BK535 hb; replace HB := sB hb; clear hb; have p10 : 0 ≤ (t536 : Int) := of_decide_eq_true hQ; have q10 : t536 < (a0.size : Int) := of_decide_eq_true hQ; have hx10 := bt_at a0 t536; replace p10 := eq_true p10; replace q10 := eq_true q10; obtain ⟨hcz18_0, hcz18_1, hcz18_2, hcz18_3, hfz18_0, hfz18_1, hfz18_2, hfz18_3⟩ := b4 BK535))
  refine bodyPost_ret (results_ctt rfl _ _ gb535 65 #[.int .i64 7, .int .i64 t536, .int .i64 0, .string (⟨#[]⟩ : ByteArray)] (0, 0) _ rfl kQ Tryz.underlying65 rfl (by kernel_rfl)) rfl ?_
  exact ⟨eQ, bQ⟩
 refine iEc H ?_ ?_<;>clear H<;>intro H c19b0 c19b1 c19
 ·clear c19
  simp only [Option.some.injEq, Prod.mk.injEq] at H
  obtain ⟨rfl, rfl, rfl, rfl, rfl, rfl⟩ := H
  go_enter Tryz.func39, Tryz.ntmps39
  go_wp2_with (first | ((with_reducible refine gD 4 ?_); refine bE 4 (cs := #[.int .i64 0, .int .i64 0, .int .i64 0, .string (⟨#[]⟩ : ByteArray)]) (t := 65) ?_; intro gb535 hg w20 hbox hb; have BK535 := aM hbox; have GW535 := sG w hg; have GE535 := sG w hg; replace HB := sB hb; clear hb hbox hg) | ((with_reducible refine gC 57 ?_); refine gL (some 12) Tryz.func57 #[.string a0, .int .i64 a1] ?_; (with_reducible refine cB (hornbookref03_Skip.calls k a0 a1 t536 _ A3.out) ?_); intro w21 hb; replace BK535 := kK BK535 hb; replace HB := sB hb; clear hb; have p10 : 0 ≤ (t536 : Int) := of_decide_eq_true hQ; have q10 : t536 < (a0.size : Int) := of_decide_eq_true hQ; have hx10 := bt_at a0 t536; replace p10 := eq_true p10; replace q10 := eq_true q10; obtain ⟨hcz22_0, hcz22_1, hcz22_2, hcz22_3, hfz22_0, hfz22_1, hfz22_2, hfz22_3⟩ := b4 BK535))
  refine bodyPost_ret (results_ctt rfl _ _ gb535 65 #[.int .i64 10, .int .i64 t536, .int .i64 0, .string (⟨#[]⟩ : ByteArray)] (0, 0) _ rfl kQ Tryz.underlying65 rfl (by kernel_rfl)) rfl ?_
  exact ⟨eQ, bQ⟩
 refine iEc H ?_ ?_<;>clear H<;>intro H c23b0 c23b1 c23
 ·clear c23
  simp only [Option.some.injEq, Prod.mk.injEq] at H
  obtain ⟨rfl, rfl, rfl, rfl, rfl, rfl⟩ := H
  go_enter Tryz.func39, Tryz.ntmps39
  go_wp2_with (first | ((with_reducible refine gD 4 ?_); refine bE 4 (cs := #[.int .i64 0, .int .i64 0, .int .i64 0, .string (⟨#[]⟩ : ByteArray)]) (t := 65) ?_; intro gb535 hg w24 hbox hb; have BK535 := aM hbox; have GW535 := sG w hg; have GE535 := sG w hg; replace HB := sB hb; clear hb hbox hg) | ((with_reducible refine gC 57 ?_); refine gL (some 12) Tryz.func57 #[.string a0, .int .i64 a1] ?_; (with_reducible refine cB (hornbookref03_Skip.calls k a0 a1 t536 _ A3.out) ?_); intro w25 hb; replace BK535 := kK BK535 hb; replace HB := sB hb; clear hb; have p10 : 0 ≤ (t536 : Int) := of_decide_eq_true hQ; have q10 : t536 < (a0.size : Int) := of_decide_eq_true hQ; have hx10 := bt_at a0 t536; replace p10 := eq_true p10; replace q10 := eq_true q10; obtain ⟨hcz26_0, hcz26_1, hcz26_2, hcz26_3, hfz26_0, hfz26_1, hfz26_2, hfz26_3⟩ := b4 BK535))
  refine bodyPost_ret (results_ctt rfl _ _ gb535 65 #[.int .i64 11, .int .i64 t536, .int .i64 0, .string (⟨#[]⟩ : ByteArray)] (0, 0) _ rfl kQ Tryz.underlying65 rfl (by kernel_rfl)) rfl ?_
  exact ⟨eQ, bQ⟩
 refine iEc H ?_ ?_<;>clear H<;>intro H c27b0 c27b1 c27
 ·clear c27
  replace H := bS H
  obtain ⟨⟨t537, t538, t539, t540, t541, t542⟩, A28, H⟩ := H
  try dsimp only at H
  simp only [Option.some.injEq, Prod.mk.injEq] at H
  obtain ⟨rfl, rfl, rfl, rfl, rfl, rfl⟩ := H
  go_enter Tryz.func39, Tryz.ntmps39
  go_wp2_with (first | ((with_reducible refine gD 4 ?_); refine bE 4 (cs := #[.int .i64 0, .int .i64 0, .int .i64 0, .string (⟨#[]⟩ : ByteArray)]) (t := 65) ?_; intro gb535 hg w29 hbox hb; have BK535 := aM hbox; have GW535 := sG w hg; have GE535 := sG w hg; replace HB := sB hb; clear hb hbox hg) | ((with_reducible refine gC 57 ?_); refine gL (some 12) Tryz.func57 #[.string a0, .int .i64 a1] ?_; (with_reducible refine cB (hornbookref03_Skip.calls k a0 a1 t536 _ A3.out) ?_); intro w30 hb; replace BK535 := kK BK535 hb; replace HB := sB hb; clear hb; have p10 : 0 ≤ (t536 : Int) := of_decide_eq_true hQ; have q10 : t536 < (a0.size : Int) := of_decide_eq_true hQ; have hx10 := bt_at a0 t536; replace p10 := eq_true p10; replace q10 := eq_true q10) | ((with_reducible refine gC 58 ?_); refine gL (some 50) Tryz.func58 #[.int .i64 t536, .int .i64 3] ?_; (with_reducible refine cB (hornbookref04_fail.calls t536 3 t537 t538 t539 t540 t541 t542 _ A28.out) ?_); intro w31 hb; replace BK535 := kK BK535 hb; replace HB := sB hb; clear hb; obtain ⟨hcz32_0, hcz32_1, hcz32_2, hcz32_3, hfz32_0, hfz32_1, hfz32_2, hfz32_3⟩ := b4 BK535))
  refine bodyPost_ret (results_ctt rfl _ _ gb535 65 #[.int .i64 t537, .int .i64 t538, .int .i64 t539, .string t540] (0, 0) _ rfl kQ Tryz.underlying65 rfl (by kernel_rfl)) rfl ?_
  exact ⟨eQ, bQ⟩
 refine iEc H ?_ ?_<;>clear H<;>intro H c33b0 c33b1 c33
 ·clear c33
  replace H := bS H
  obtain ⟨t543, A34, H⟩ := H
  try dsimp only at H
  by_cases c35 : t543 = true
  ·subst c35
   rw [if_pos rfl] at H
   simp only [Option.some.injEq, Prod.mk.injEq] at H
   obtain ⟨rfl, rfl, rfl, rfl, rfl, rfl⟩ := H
   go_enter Tryz.func39, Tryz.ntmps39
   go_wp2_with (first | ((with_reducible refine gD 4 ?_); refine bE 4 (cs := #[.int .i64 0, .int .i64 0, .int .i64 0, .string (⟨#[]⟩ : ByteArray)]) (t := 65) ?_; intro gb535 hg w36 hbox hb; have BK535 := aM hbox; have GW535 := sG w hg; have GE535 := sG w hg; replace HB := sB hb; clear hb hbox hg) | ((with_reducible refine gC 57 ?_); refine gL (some 12) Tryz.func57 #[.string a0, .int .i64 a1] ?_; (with_reducible refine cB (hornbookref03_Skip.calls k a0 a1 t536 _ A3.out) ?_); intro w37 hb; replace BK535 := kK BK535 hb; replace HB := sB hb; clear hb; have p10 : 0 ≤ (t536 : Int) := of_decide_eq_true hQ; have q10 : t536 < (a0.size : Int) := of_decide_eq_true hQ; have hx10 := bt_at a0 t536; replace p10 := eq_true p10; replace q10 := eq_true q10) | ((with_reducible refine gC 59 ?_); refine gL (some 59) Tryz.func59 #[.string a0, .int .i64 (wrap64 (t536 + 1)), .int .u8 62] ?_; (with_reducible refine (hornbookref04_is.calls a0 (wrap64 (t536 + 1)) 62 true _ A34.out).mono ?_); rintro e w' ⟨rfl, ⟨nd, rfl⟩⟩; refine ⟨_, rfl, ?_⟩; (try (rw [drewN_self w37]; generalize hq_ : World.drewN w37 _ = w37; have n0_ : Aside0 (w37.heap[gb535]? = some (.cells #[.int .i64 0, .int .i64 0, .int .i64 0, .string (⟨#[]⟩ : ByteArray)] 65 (0, 0))) := ⟨by rw [← hq_]; exact kQ⟩; have n1_ : Aside0 (Below w.heap.size w w37) := ⟨by rw [← hq_]; exact bQ⟩; clear BK535 HB hq_; have BK535 := n0_; have HB := n1_; clear n0_ n1_)); obtain ⟨hcz38_0, hcz38_1, hcz38_2, hcz38_3, hfz38_0, hfz38_1, hfz38_2, hfz38_3⟩ := b4 BK535))
   refine bodyPost_ret (results_ctt rfl _ _ gb535 65 #[.int .i64 9, .int .i64 t536, .int .i64 0, .string (⟨#[]⟩ : ByteArray)] (0, 0) _ rfl kQ Tryz.underlying65 rfl (by kernel_rfl)) rfl ?_
   exact ⟨eQ, bQ⟩
  replace c35 := Bool.eq_false_iff.mpr c35
  subst c35
  rw [if_neg (show ¬ (false = true) by decide)] at H
  replace H := bS H
  obtain ⟨⟨t544, t545, t546, t547, t548, t549⟩, A39, H⟩ := H
  try dsimp only at H
  simp only [Option.some.injEq, Prod.mk.injEq] at H
  obtain ⟨rfl, rfl, rfl, rfl, rfl, rfl⟩ := H
  go_enter Tryz.func39, Tryz.ntmps39
  go_wp2_with (first | ((with_reducible refine gD 4 ?_); refine bE 4 (cs := #[.int .i64 0, .int .i64 0, .int .i64 0, .string (⟨#[]⟩ : ByteArray)]) (t := 65) ?_; intro gb535 hg w40 hbox hb; have BK535 := aM hbox; have GW535 := sG w hg; have GE535 := sG w hg; replace HB := sB hb; clear hb hbox hg) | ((with_reducible refine gC 57 ?_); refine gL (some 12) Tryz.func57 #[.string a0, .int .i64 a1] ?_; (with_reducible refine cB (hornbookref03_Skip.calls k a0 a1 t536 _ A3.out) ?_); intro w41 hb; replace BK535 := kK BK535 hb; replace HB := sB hb; clear hb; have p10 : 0 ≤ (t536 : Int) := of_decide_eq_true hQ; have q10 : t536 < (a0.size : Int) := of_decide_eq_true hQ; have hx10 := bt_at a0 t536; replace p10 := eq_true p10; replace q10 := eq_true q10) | ((with_reducible refine gC 59 ?_); refine gL (some 59) Tryz.func59 #[.string a0, .int .i64 (wrap64 (t536 + 1)), .int .u8 62] ?_; (with_reducible refine (hornbookref04_is.calls a0 (wrap64 (t536 + 1)) 62 false _ A34.out).mono ?_); rintro e w' ⟨rfl, ⟨nd, rfl⟩⟩; refine ⟨_, rfl, ?_⟩; (try (rw [drewN_self w41]; generalize hq_ : World.drewN w41 _ = w41; have n0_ : Aside0 (w41.heap[gb535]? = some (.cells #[.int .i64 0, .int .i64 0, .int .i64 0, .string (⟨#[]⟩ : ByteArray)] 65 (0, 0))) := ⟨by rw [← hq_]; exact kQ⟩; have n1_ : Aside0 (Below w.heap.size w w41) := ⟨by rw [← hq_]; exact bQ⟩; clear BK535 HB hq_; have BK535 := n0_; have HB := n1_; clear n0_ n1_))) | ((with_reducible refine gC 58 ?_); refine gL (some 65) Tryz.func58 #[.int .i64 t536, .int .i64 3] ?_; (with_reducible refine cB (hornbookref04_fail.calls t536 3 t544 t545 t546 t547 t548 t549 _ A39.out) ?_); intro w42 hb; replace BK535 := kK BK535 hb; replace HB := sB hb; clear hb; obtain ⟨hcz43_0, hcz43_1, hcz43_2, hcz43_3, hfz43_0, hfz43_1, hfz43_2, hfz43_3⟩ := b4 BK535))
  refine bodyPost_ret (results_ctt rfl _ _ gb535 65 #[.int .i64 t544, .int .i64 t545, .int .i64 t546, .string t547] (0, 0) _ rfl kQ Tryz.underlying65 rfl (by kernel_rfl)) rfl ?_
  exact ⟨eQ, bQ⟩
 refine iEc H ?_ ?_<;>clear H<;>intro H c44b0 c44b1 c44
 ·clear c44
  replace H := bS H
  obtain ⟨⟨t550, t551⟩, A45, H⟩ := H
  try dsimp only at H
  replace H := bS H
  obtain ⟨t552, A46, H⟩ := H
  try dsimp only at H
  simp only [Option.some.injEq, Prod.mk.injEq] at H
  obtain ⟨rfl, rfl, rfl, rfl, rfl, rfl⟩ := H
  go_enter Tryz.func39, Tryz.ntmps39
  go_wp2_with (first | ((with_reducible refine gD 4 ?_); refine bE 4 (cs := #[.int .i64 0, .int .i64 0, .int .i64 0, .string (⟨#[]⟩ : ByteArray)]) (t := 65) ?_; intro gb535 hg w47 hbox hb; have BK535 := aM hbox; have GW535 := sG w hg; have GE535 := sG w hg; replace HB := sB hb; clear hb hbox hg) | ((with_reducible refine gC 57 ?_); refine gL (some 12) Tryz.func57 #[.string a0, .int .i64 a1] ?_; (with_reducible refine cB (hornbookref03_Skip.calls k a0 a1 t536 _ A3.out) ?_); intro w48 hb; replace BK535 := kK BK535 hb; replace HB := sB hb; clear hb; have p10 : 0 ≤ (t536 : Int) := of_decide_eq_true hQ; have q10 : t536 < (a0.size : Int) := of_decide_eq_true hQ; have hx10 := bt_at a0 t536; replace p10 := eq_true p10; replace q10 := eq_true q10) | ((with_reducible refine gC 60 ?_); refine gL (some 75) Tryz.func60 #[.string a0, .int .i64 (wrap64 (t536 + 1))] ?_; (with_reducible refine cB (hornbookref03_Word.calls k a0 (wrap64 (t536 + 1)) t550 t551 _ A45.out) ?_); intro w49 hb; replace BK535 := kK BK535 hb; replace HB := sB hb; clear hb) | ((with_reducible refine gC 61 ?_); refine gL (some 80) Tryz.func61 #[.string t550] ?_; (with_reducible refine cB (hornbookref03_Name.calls k t550 t552 _ A46.out) ?_); intro w50 hb; replace BK535 := kK BK535 hb; replace HB := sB hb; clear hb; obtain ⟨hcz51_0, hcz51_1, hcz51_2, hcz51_3, hfz51_0, hfz51_1, hfz51_2, hfz51_3⟩ := b4 BK535))
  refine bodyPost_ret (results_ctt rfl _ _ gb535 65 #[.int .i64 2, .int .i64 t536, .int .i64 0, .string t552] (0, 0) _ rfl kQ Tryz.underlying65 rfl (by kernel_rfl)) rfl ?_
  exact ⟨eQ, bQ⟩
 refine iEc H ?_ ?_<;>clear H<;>intro H c52b0 c52b1 c52
 rotate_left
 ·refine iEc H ?_ ?_<;>clear H<;>intro H c63b0 c63b1 c63
  rotate_left
  ·replace H := bS H
   obtain ⟨⟨t566, t567, t568, t569, t570, t571⟩, A69, H⟩ := H
   try dsimp only at H
   simp only [Option.some.injEq, Prod.mk.injEq] at H
   obtain ⟨rfl, rfl, rfl, rfl, rfl, rfl⟩ := H
   go_enter Tryz.func39, Tryz.ntmps39
   go_wp2_with (first | ((with_reducible refine gD 4 ?_); refine bE 4 (cs := #[.int .i64 0, .int .i64 0, .int .i64 0, .string (⟨#[]⟩ : ByteArray)]) (t := 65) ?_; intro gb535 hg w70 hbox hb; have BK535 := aM hbox; have GW535 := sG w hg; have GE535 := sG w hg; replace HB := sB hb; clear hb hbox hg) | ((with_reducible refine gC 57 ?_); refine gL (some 12) Tryz.func57 #[.string a0, .int .i64 a1] ?_; (with_reducible refine cB (hornbookref03_Skip.calls k a0 a1 t536 _ A3.out) ?_); intro w71 hb; replace BK535 := kK BK535 hb; replace HB := sB hb; clear hb; have p10 : 0 ≤ (t536 : Int) := of_decide_eq_true hQ; have q10 : t536 < (a0.size : Int) := of_decide_eq_true hQ; have hx10 := bt_at a0 t536; replace p10 := eq_true p10; replace q10 := eq_true q10) | ((with_reducible refine gC 64 ?_); refine gL (some 109) Tryz.func64 #[.string a0, .int .i64 t536] ?_; (with_reducible refine cB (hornbookref04_worded.calls k a0 t536 t566 t567 t568 t569 t570 t571 _ A69.out) ?_); intro w72 hb; replace BK535 := kK BK535 hb; replace HB := sB hb; clear hb; obtain ⟨hcz73_0, hcz73_1, hcz73_2, hcz73_3, hfz73_0, hfz73_1, hfz73_2, hfz73_3⟩ := b4 BK535))
   refine bodyPost_ret (results_ctt rfl _ _ gb535 65 #[.int .i64 t566, .int .i64 t567, .int .i64 t568, .string t569] (0, 0) _ rfl kQ Tryz.underlying65 rfl (by kernel_rfl)) rfl ?_
   exact ⟨eQ, bQ⟩
  clear c63
  replace H := bS H
  obtain ⟨⟨t560, t561, t562, t563, t564, t565⟩, A64, H⟩ := H
  try dsimp only at H
  simp only [Option.some.injEq, Prod.mk.injEq] at H
  obtain ⟨rfl, rfl, rfl, rfl, rfl, rfl⟩ := H
  go_enter Tryz.func39, Tryz.ntmps39
  go_wp2_with (first | ((with_reducible refine gD 4 ?_); refine bE 4 (cs := #[.int .i64 0, .int .i64 0, .int .i64 0, .string (⟨#[]⟩ : ByteArray)]) (t := 65) ?_; intro gb535 hg w65 hbox hb; have BK535 := aM hbox; have GW535 := sG w hg; have GE535 := sG w hg; replace HB := sB hb; clear hb hbox hg) | ((with_reducible refine gC 57 ?_); refine gL (some 12) Tryz.func57 #[.string a0, .int .i64 a1] ?_; (with_reducible refine cB (hornbookref03_Skip.calls k a0 a1 t536 _ A3.out) ?_); intro w66 hb; replace BK535 := kK BK535 hb; replace HB := sB hb; clear hb; have p10 : 0 ≤ (t536 : Int) := of_decide_eq_true hQ; have q10 : t536 < (a0.size : Int) := of_decide_eq_true hQ; have hx10 := bt_at a0 t536; replace p10 := eq_true p10; replace q10 := eq_true q10) | ((with_reducible refine gC 63 ?_); refine gL (some 103) Tryz.func63 #[.string a0, .int .i64 t536] ?_; (with_reducible refine cB (hornbookref04_strung.calls k a0 t536 t560 t561 t562 t563 t564 t565 _ A64.out) ?_); intro w67 hb; replace BK535 := kK BK535 hb; replace HB := sB hb; clear hb; obtain ⟨hcz68_0, hcz68_1, hcz68_2, hcz68_3, hfz68_0, hfz68_1, hfz68_2, hfz68_3⟩ := b4 BK535))
  refine bodyPost_ret (results_ctt rfl _ _ gb535 65 #[.int .i64 t560, .int .i64 t561, .int .i64 t562, .string t563] (0, 0) _ rfl kQ Tryz.underlying65 rfl (by kernel_rfl)) rfl ?_
  exact ⟨eQ, bQ⟩
 clear c52
 replace H := bS H
 obtain ⟨t553, A53, H⟩ := H
 try dsimp only at H
 by_cases c54 : t553 = true
 ·subst c54
  rw [if_pos rfl] at H
  simp only [Option.some.injEq, Prod.mk.injEq] at H
  obtain ⟨rfl, rfl, rfl, rfl, rfl, rfl⟩ := H
  go_enter Tryz.func39, Tryz.ntmps39
  go_wp2_with (first | ((with_reducible refine gD 4 ?_); refine bE 4 (cs := #[.int .i64 0, .int .i64 0, .int .i64 0, .string (⟨#[]⟩ : ByteArray)]) (t := 65) ?_; intro gb535 hg w55 hbox hb; have BK535 := aM hbox; have GW535 := sG w hg; have GE535 := sG w hg; replace HB := sB hb; clear hb hbox hg) | ((with_reducible refine gC 57 ?_); refine gL (some 12) Tryz.func57 #[.string a0, .int .i64 a1] ?_; (with_reducible refine cB (hornbookref03_Skip.calls k a0 a1 t536 _ A3.out) ?_); intro w56 hb; replace BK535 := kK BK535 hb; replace HB := sB hb; clear hb; have p10 : 0 ≤ (t536 : Int) := of_decide_eq_true hQ; have q10 : t536 < (a0.size : Int) := of_decide_eq_true hQ; have hx10 := bt_at a0 t536; replace p10 := eq_true p10; replace q10 := eq_true q10) | ((with_reducible refine gC 59 ?_); refine gL (some 88) Tryz.func59 #[.string a0, .int .i64 (wrap64 (t536 + 1)), .int .u8 60] ?_; (with_reducible refine (hornbookref04_is.calls a0 (wrap64 (t536 + 1)) 60 true _ A53.out).mono ?_); rintro e w' ⟨rfl, ⟨nd, rfl⟩⟩; refine ⟨_, rfl, ?_⟩; (try (rw [drewN_self w56]; generalize hq_ : World.drewN w56 _ = w56; have n0_ : Aside0 (w56.heap[gb535]? = some (.cells #[.int .i64 0, .int .i64 0, .int .i64 0, .string (⟨#[]⟩ : ByteArray)] 65 (0, 0))) := ⟨by rw [← hq_]; exact kQ⟩; have n1_ : Aside0 (Below w.heap.size w w56) := ⟨by rw [← hq_]; exact bQ⟩; clear BK535 HB hq_; have BK535 := n0_; have HB := n1_; clear n0_ n1_)); obtain ⟨hcz57_0, hcz57_1, hcz57_2, hcz57_3, hfz57_0, hfz57_1, hfz57_2, hfz57_3⟩ := b4 BK535))
  refine bodyPost_ret (results_ctt rfl _ _ gb535 65 #[.int .i64 8, .int .i64 t536, .int .i64 0, .string (⟨#[]⟩ : ByteArray)] (0, 0) _ rfl kQ Tryz.underlying65 rfl (by kernel_rfl)) rfl ?_
  exact ⟨eQ, bQ⟩
 replace c54 := Bool.eq_false_iff.mpr c54
 subst c54
 rw [if_neg (show ¬ (false = true) by decide)] at H
 replace H := bS H
 obtain ⟨⟨t554, t555, t556, t557, t558, t559⟩, A58, H⟩ := H
 try dsimp only at H
 simp only [Option.some.injEq, Prod.mk.injEq] at H
 obtain ⟨rfl, rfl, rfl, rfl, rfl, rfl⟩ := H
 go_enter Tryz.func39, Tryz.ntmps39
 go_wp2_with (first | ((with_reducible refine gD 4 ?_); refine bE 4 (cs := #[.int .i64 0, .int .i64 0, .int .i64 0, .string (⟨#[]⟩ : ByteArray)]) (t := 65) ?_; intro gb535 hg w59 hbox hb; have BK535 := aM hbox; have GW535 := sG w hg; have GE535 := sG w hg; replace HB := sB hb; clear hb hbox hg) | ((with_reducible refine gC 57 ?_); refine gL (some 12) Tryz.func57 #[.string a0, .int .i64 a1] ?_; (with_reducible refine cB (hornbookref03_Skip.calls k a0 a1 t536 _ A3.out) ?_); intro w60 hb; replace BK535 := kK BK535 hb; replace HB := sB hb; clear hb; have p10 : 0 ≤ (t536 : Int) := of_decide_eq_true hQ; have q10 : t536 < (a0.size : Int) := of_decide_eq_true hQ; have hx10 := bt_at a0 t536; replace p10 := eq_true p10; replace q10 := eq_true q10) | ((with_reducible refine gC 59 ?_); refine gL (some 88) Tryz.func59 #[.string a0, .int .i64 (wrap64 (t536 + 1)), .int .u8 60] ?_; (with_reducible refine (hornbookref04_is.calls a0 (wrap64 (t536 + 1)) 60 false _ A53.out).mono ?_); rintro e w' ⟨rfl, ⟨nd, rfl⟩⟩; refine ⟨_, rfl, ?_⟩; (try (rw [drewN_self w60]; generalize hq_ : World.drewN w60 _ = w60; have n0_ : Aside0 (w60.heap[gb535]? = some (.cells #[.int .i64 0, .int .i64 0, .int .i64 0, .string (⟨#[]⟩ : ByteArray)] 65 (0, 0))) := ⟨by rw [← hq_]; exact kQ⟩; have n1_ : Aside0 (Below w.heap.size w w60) := ⟨by rw [← hq_]; exact bQ⟩; clear BK535 HB hq_; have BK535 := n0_; have HB := n1_; clear n0_ n1_))) | ((with_reducible refine gC 62 ?_); refine gL (some 95) Tryz.func62 #[.string a0, .int .i64 t536] ?_; (with_reducible refine cB (hornbookref04_hexed.calls k a0 t536 t554 t555 t556 t557 t558 t559 _ A58.out) ?_); intro w61 hb; replace BK535 := kK BK535 hb; replace HB := sB hb; clear hb; obtain ⟨hcz62_0, hcz62_1, hcz62_2, hcz62_3, hfz62_0, hfz62_1, hfz62_2, hfz62_3⟩ := b4 BK535))
 refine bodyPost_ret (results_ctt rfl _ _ gb535 65 #[.int .i64 t554, .int .i64 t555, .int .i64 t556, .string t557] (0, 0) _ rfl kQ Tryz.underlying65 rfl (by kernel_rfl)) rfl ?_
 exact ⟨eQ, bQ⟩
def hornbookref04_All.l0 : Nat → ByteArray → List (S65) → Int → Option ((List (S65)) × Int × Int)
 | 0, _, _, _ => none
 | k + 1, x0, x5, x6 => (hornbookref04_Next.f k x0 x6).bind fun bt572 => (if bt572.2.2.2.2.2 = 0 then (if bt572.1 = 0 then (some (x5, (x0.size : Int), 0)) else (if (x5.length : Int) = 65536 then (some (([] : List (S65)), bt572.2.1, 10)) else (if x5.length < 3518437208883 then (hornbookref04_All.l0 k x0 (x5 ++ [(⟨bt572.1, bt572.2.1, bt572.2.2.1, bt572.2.2.2.1⟩ : S65)]) bt572.2.2.2.2.1) else (none)))) else (some (([] : List (S65)), bt572.2.2.2.2.1, bt572.2.2.2.2.2)))
def hornbookref04_All.f (k : Nat) (a0 : ByteArray) : Option ((List (S65)) × Int × Int) := hornbookref04_All.l0 k a0 ([] : List (S65)) 0
set_option maxHeartbeats 8000000 in
set_option maxRecDepth 100000 in
theorem hornbookref04_All.calls (k : Nat) (a0 : ByteArray) (r1 : List (S65)) (r2 : Int) (r3 : Int) (w : World) (h : hornbookref04_All.f k a0 = some (r1, r2, r3)) :
  Calls Tryz.prog 31 #[.string a0] w fun e w' => ∃ v0_ : Value, e = .returned (.tuple #[v0_, .int .i64 r2, .int .i64 r3]) ∧ Kd.R k65 65 w' w.heap.size (fun _ => True) v0_ r1 ∧ Below w.heap.size w w' := by
 have hu65 := Tryz.underlying65
 have HB := aM (Below.refl w.heap.size w)
 have H : (hornbookref04_All.l0 k a0 ([] : List (S65)) 0) = some (r1, r2, r3) := h
 clear h
 have H' := aM H
 clear H
 go_enter Tryz.func31, Tryz.ntmps31
 go_wp2
 repeat (go_quiet (fail); try go_wp2)
 go_loopg [5, 6] k (fun kq v5 v6 w' => ∃ (x5_1 : List (S65)) (x6_1 : Int), v6 = .int .i64 x6_1 ∧ Aside0 (hornbookref04_All.l0 kq a0 x5_1 x6_1 = some (r1, r2, r3)) ∧ Aside0 (kq ≤ k) ∧ Aside0 (Kd.R k65 65 w' w.heap.size (fun _ => True) v5 x5_1) ∧ Aside0 (Below w.heap.size w w'))
 case atStart => exact ⟨(([] : List (S65))), (0), vQ, H', ⟨Nat.le_refl _⟩, ⟨by first | exact Kd.R_nil _ _ _ _ _ | exact Kd.N_nil _ _ _ _ _ | exact Kd.V_nil _ _ _ _ _ | exact Kd.Q_nil _ _ _ _ _ | exact Kd.S_nil _ _ _ _ _⟩, ⟨bQ⟩⟩
 case round =>
  clear H'
  obtain ⟨x5_1, x6_1, rfl, HA, HK1, HO_5, HB⟩ := hrel
  cases gk with
  | zero => exact absurd HA.out (by simp [hornbookref04_All.l0])
  | succ k1 =>
   have H := HA.out
   clear HA
   simp only [hornbookref04_All.l0] at H
   replace H := bS H
   obtain ⟨⟨t572, t573, t574, t575, t576, t577⟩, A2, H⟩ := H
   try dsimp only at H
   refine iEc H ?_ ?_<;>clear H<;>intro H c3b0 c3b1 c3
   rotate_left
   ·simp only [Option.some.injEq, Prod.mk.injEq] at H
    obtain ⟨rfl, rfl, rfl⟩ := H
    go_wp2_with (first | (go_at_call 39; (with_reducible refine (hornbookref04_Next.calls k1 a0 x6_1 t572 t573 t574 t575 t576 t577 _ A2.out).mono ?_); rintro e w19 ⟨rfl, hb⟩; replace HO_5 := rK HO_5 hb; replace HB := sB hb; clear hb) | ((with_reducible refine gD 7 ?_); refine bE 7 (cs := #[.int .i64 0, .int .i64 0, .int .i64 0, .string (⟨#[]⟩ : ByteArray)]) (t := 65) ?_; intro gb578 hg w20 hbox hb; replace HO_5 := aM (Kd.R_below (Kd.R_elderB (mQ HO_5) gb578 (Nat.le_of_eq hg.symm)) hb); have BK578 := aM hbox; have GW578 := sG w hg; have GE578 := sG w hg; replace HB := sB hb; clear hb hbox hg; obtain ⟨hcz21_0, hcz21_1, hcz21_2, hcz21_3, hfz21_0, hfz21_1, hfz21_2, hfz21_3⟩ := b4 BK578))
    repeat (go_quiet (first | (go_at_call 39; (with_reducible refine (hornbookref04_Next.calls k1 a0 x6_1 t572 t573 t574 t575 t576 t577 _ A2.out).mono ?_); rintro e w19 ⟨rfl, hb⟩; replace HO_5 := rK HO_5 hb; replace HB := sB hb; clear hb) | ((with_reducible refine gD 7 ?_); refine bE 7 (cs := #[.int .i64 0, .int .i64 0, .int .i64 0, .string (⟨#[]⟩ : ByteArray)]) (t := 65) ?_; intro gb578 hg w20 hbox hb; replace HO_5 := aM (Kd.R_below (Kd.R_elderB (mQ HO_5) gb578 (Nat.le_of_eq hg.symm)) hb); have BK578 := aM hbox; have GW578 := sG w hg; have GE578 := sG w hg; replace HB := sB hb; clear hb hbox hg; obtain ⟨hcz21_0, hcz21_1, hcz21_2, hcz21_3, hfz21_0, hfz21_1, hfz21_2, hfz21_3⟩ := b4 BK578)); try go_wp2_with (first | (go_at_call 39; (with_reducible refine (hornbookref04_Next.calls k1 a0 x6_1 t572 t573 t574 t575 t576 t577 _ A2.out).mono ?_); rintro e w19 ⟨rfl, hb⟩; replace HO_5 := rK HO_5 hb; replace HB := sB hb; clear hb) | ((with_reducible refine gD 7 ?_); refine bE 7 (cs := #[.int .i64 0, .int .i64 0, .int .i64 0, .string (⟨#[]⟩ : ByteArray)]) (t := 65) ?_; intro gb578 hg w20 hbox hb; replace HO_5 := aM (Kd.R_below (Kd.R_elderB (mQ HO_5) gb578 (Nat.le_of_eq hg.symm)) hb); have BK578 := aM hbox; have GW578 := sG w hg; have GE578 := sG w hg; replace HB := sB hb; clear hb hbox hg; obtain ⟨hcz21_0, hcz21_1, hcz21_2, hcz21_3, hfz21_0, hfz21_1, hfz21_2, hfz21_3⟩ := b4 BK578)))
    go_ret3
    exact ⟨_, eQ, by first | exact Kd.R_nil _ _ _ _ _ | exact Kd.N_nil _ _ _ _ _ | exact Kd.V_nil _ _ _ _ _ | exact Kd.Q_nil _ _ _ _ _ | exact Kd.S_nil _ _ _ _ _, bQ⟩
   clear c3
   refine iEc H ?_ ?_<;>clear H<;>intro H c4b0 c4b1 c4
   ·clear c4
    simp only [Option.some.injEq, Prod.mk.injEq] at H
    obtain ⟨rfl, rfl, rfl⟩ := H
    go_wp2_with (first | (go_at_call 39; (with_reducible refine (hornbookref04_Next.calls k1 a0 x6_1 t572 t573 t574 t575 t576 t577 _ A2.out).mono ?_); rintro e w5 ⟨rfl, hb⟩; replace HO_5 := rK HO_5 hb; replace HB := sB hb; clear hb) | ((with_reducible refine gD 7 ?_); refine bE 7 (cs := #[.int .i64 0, .int .i64 0, .int .i64 0, .string (⟨#[]⟩ : ByteArray)]) (t := 65) ?_; intro gb578 hg w6 hbox hb; replace HO_5 := aM (Kd.R_below (Kd.R_elderB (mQ HO_5) gb578 (Nat.le_of_eq hg.symm)) hb); have BK578 := aM hbox; have GW578 := sG w hg; have GE578 := sG w hg; replace HB := sB hb; clear hb hbox hg; obtain ⟨hcz7_0, hcz7_1, hcz7_2, hcz7_3, hfz7_0, hfz7_1, hfz7_2, hfz7_3⟩ := b4 BK578))
    repeat (go_quiet (first | (go_at_call 39; (with_reducible refine (hornbookref04_Next.calls k1 a0 x6_1 t572 t573 t574 t575 t576 t577 _ A2.out).mono ?_); rintro e w5 ⟨rfl, hb⟩; replace HO_5 := rK HO_5 hb; replace HB := sB hb; clear hb) | ((with_reducible refine gD 7 ?_); refine bE 7 (cs := #[.int .i64 0, .int .i64 0, .int .i64 0, .string (⟨#[]⟩ : ByteArray)]) (t := 65) ?_; intro gb578 hg w6 hbox hb; replace HO_5 := aM (Kd.R_below (Kd.R_elderB (mQ HO_5) gb578 (Nat.le_of_eq hg.symm)) hb); have BK578 := aM hbox; have GW578 := sG w hg; have GE578 := sG w hg; replace HB := sB hb; clear hb hbox hg; obtain ⟨hcz7_0, hcz7_1, hcz7_2, hcz7_3, hfz7_0, hfz7_1, hfz7_2, hfz7_3⟩ := b4 BK578)); try go_wp2_with (first | (go_at_call 39; (with_reducible refine (hornbookref04_Next.calls k1 a0 x6_1 t572 t573 t574 t575 t576 t577 _ A2.out).mono ?_); rintro e w5 ⟨rfl, hb⟩; replace HO_5 := rK HO_5 hb; replace HB := sB hb; clear hb) | ((with_reducible refine gD 7 ?_); refine bE 7 (cs := #[.int .i64 0, .int .i64 0, .int .i64 0, .string (⟨#[]⟩ : ByteArray)]) (t := 65) ?_; intro gb578 hg w6 hbox hb; replace HO_5 := aM (Kd.R_below (Kd.R_elderB (mQ HO_5) gb578 (Nat.le_of_eq hg.symm)) hb); have BK578 := aM hbox; have GW578 := sG w hg; have GE578 := sG w hg; replace HB := sB hb; clear hb hbox hg; obtain ⟨hcz7_0, hcz7_1, hcz7_2, hcz7_3, hfz7_0, hfz7_1, hfz7_2, hfz7_3⟩ := b4 BK578)))
    go_ret3
    exact ⟨_, eQ, by (with_reducible repeat first|apply rA|apply rD|apply r1); exact Kd.R_mono (Kd.R_far (p := ⟨gb578, 3, none⟩) (Kd.R_far (p := ⟨gb578, 2, none⟩) (Kd.R_far (p := ⟨gb578, 1, none⟩) (Kd.R_far (p := ⟨gb578, 0, none⟩) (Kd.R_mono HO_5.out (fun k_ hk => (⟨hk, hk.2⟩ : _ ∧ k_ ≠ gb578))) (fun _ hk => hk.2) (.int .i64 t572)) (fun _ hk => hk.2) (.int .i64 t573)) (fun _ hk => hk.2) (.int .i64 t574)) (fun _ hk => hk.2) (.string t575)) (fun _ hk => trivial), bQ⟩
   refine iEc H ?_ ?_<;>clear H<;>intro H c8b0 c8b1 c8
   ·clear c8
    simp only [Option.some.injEq, Prod.mk.injEq] at H
    obtain ⟨rfl, rfl, rfl⟩ := H
    go_wp2_with (first | (go_at_call 39; (with_reducible refine (hornbookref04_Next.calls k1 a0 x6_1 t572 t573 t574 t575 t576 t577 _ A2.out).mono ?_); rintro e w9 ⟨rfl, hb⟩; replace HO_5 := rK HO_5 hb; replace HB := sB hb; clear hb) | ((with_reducible refine gD 7 ?_); refine bE 7 (cs := #[.int .i64 0, .int .i64 0, .int .i64 0, .string (⟨#[]⟩ : ByteArray)]) (t := 65) ?_; intro gb578 hg w10 hbox hb; replace HO_5 := aM (Kd.R_below (Kd.R_elderB (mQ HO_5) gb578 (Nat.le_of_eq hg.symm)) hb); have BK578 := aM hbox; have GW578 := sG w hg; have GE578 := sG w hg; replace HB := sB hb; clear hb hbox hg; obtain ⟨hcz11_0, hcz11_1, hcz11_2, hcz11_3, hfz11_0, hfz11_1, hfz11_2, hfz11_3⟩ := b4 BK578; obtain ⟨Ao12, co12, eo12⟩ := Kd.R_slice HO_5.out; subst eo12))
    repeat (go_quiet (first | (go_at_call 39; (with_reducible refine (hornbookref04_Next.calls k1 a0 x6_1 t572 t573 t574 t575 t576 t577 _ A2.out).mono ?_); rintro e w9 ⟨rfl, hb⟩; replace HO_5 := rK HO_5 hb; replace HB := sB hb; clear hb) | ((with_reducible refine gD 7 ?_); refine bE 7 (cs := #[.int .i64 0, .int .i64 0, .int .i64 0, .string (⟨#[]⟩ : ByteArray)]) (t := 65) ?_; intro gb578 hg w10 hbox hb; replace HO_5 := aM (Kd.R_below (Kd.R_elderB (mQ HO_5) gb578 (Nat.le_of_eq hg.symm)) hb); have BK578 := aM hbox; have GW578 := sG w hg; have GE578 := sG w hg; replace HB := sB hb; clear hb hbox hg; obtain ⟨hcz11_0, hcz11_1, hcz11_2, hcz11_3, hfz11_0, hfz11_1, hfz11_2, hfz11_3⟩ := b4 BK578; obtain ⟨Ao12, co12, eo12⟩ := Kd.R_slice HO_5.out; subst eo12)); try go_wp2_with (first | (go_at_call 39; (with_reducible refine (hornbookref04_Next.calls k1 a0 x6_1 t572 t573 t574 t575 t576 t577 _ A2.out).mono ?_); rintro e w9 ⟨rfl, hb⟩; replace HO_5 := rK HO_5 hb; replace HB := sB hb; clear hb) | ((with_reducible refine gD 7 ?_); refine bE 7 (cs := #[.int .i64 0, .int .i64 0, .int .i64 0, .string (⟨#[]⟩ : ByteArray)]) (t := 65) ?_; intro gb578 hg w10 hbox hb; replace HO_5 := aM (Kd.R_below (Kd.R_elderB (mQ HO_5) gb578 (Nat.le_of_eq hg.symm)) hb); have BK578 := aM hbox; have GW578 := sG w hg; have GE578 := sG w hg; replace HB := sB hb; clear hb hbox hg; obtain ⟨hcz11_0, hcz11_1, hcz11_2, hcz11_3, hfz11_0, hfz11_1, hfz11_2, hfz11_3⟩ := b4 BK578; obtain ⟨Ao12, co12, eo12⟩ := Kd.R_slice HO_5.out; subst eo12)))
    go_ret3
    exact ⟨_, eQ, by first | exact Kd.R_nil _ _ _ _ _ | exact Kd.N_nil _ _ _ _ _ | exact Kd.V_nil _ _ _ _ _ | exact Kd.Q_nil _ _ _ _ _ | exact Kd.S_nil _ _ _ _ _, bQ⟩
   refine iNc H ?_ ?_<;>clear H<;>intro H c13
   rotate_left
   ·exact absurd H (by simp)
   have LMc13 := aM c13
   clear c13
   obtain ⟨y579, hy579⟩ : ∃ y_ : List (S65), y_ = (x5_1 ++ [(⟨t572, t573, t574, t575⟩ : S65)]) := ⟨_, rfl⟩
   replace H : (hornbookref04_All.l0 k1 a0 y579 t576) = some (r1, r2, r3) := by first | (rw [hy579]; with_reducible exact H) | (have H2_ := (Option.bind_some _ _).symm.trans H; rw [hy579]; with_reducible exact H2_) | (have H2_ := (Option.bind_some _ _).symm.trans H; with_reducible exact H2_) | with_reducible exact H | (rw [hy579]; exact H) | exact H
   have Ny579 := aM hy579
   clear hy579
   have H' := aM H
   clear H
   go_wp2_with (first | (go_at_call 39; (with_reducible refine (hornbookref04_Next.calls k1 a0 x6_1 t572 t573 t574 t575 t576 t577 _ A2.out).mono ?_); rintro e w14 ⟨rfl, hb⟩; replace HO_5 := rK HO_5 hb; replace HB := sB hb; clear hb) | ((with_reducible refine gD 7 ?_); refine bE 7 (cs := #[.int .i64 0, .int .i64 0, .int .i64 0, .string (⟨#[]⟩ : ByteArray)]) (t := 65) ?_; intro gb578 hg w15 hbox hb; replace HO_5 := aM (Kd.R_below (Kd.R_elderB (mQ HO_5) gb578 (Nat.le_of_eq hg.symm)) hb); have BK578 := aM hbox; have GW578 := sG w hg; have GE578 := sG w hg; replace HB := sB hb; clear hb hbox hg; obtain ⟨hcz16_0, hcz16_1, hcz16_2, hcz16_3, hfz16_0, hfz16_1, hfz16_2, hfz16_3⟩ := b4 BK578; obtain ⟨Ao17, co17, eo17⟩ := Kd.R_slice HO_5.out; subst eo17) | ((with_reducible refine gate_builtin (b := .append) (xs := #[.tmp 32, .tmp 34]) rfl ?_); at_builtin; refine Kd.R_append k65 (w0 := w) w.heap.size rfl (.tmp 32) (.tmp 34) 61 65 (.agg #[(.int .i64 0), (.int .i64 0), (.int .i64 0), (.string ⟨#[]⟩)]) 40 rfl Tryz.underlying61 info65 rfl (by decide) (by omega) (.slice Ao17 x5_1.length co17) x5_1 (⟨t572, t573, t574, t575⟩ : S65) [.int .i64 t572, .int .i64 t573, .int .i64 t574, .string t575] (fun k_ => k_ ≠ gb578) (fun _ => False) rfl (by first | (go_simp; done) | (go_simp; rfl)) ?aP (fun _ hk => hk.elim) ?aF ?aO ?aB ?aS ?aL ?_; (case aP => exact k65_mkM _ _ _ (⟨t572, t573, t574, t575⟩ : S65)); (case aB => exact bQ); (case aF => exact (fun k_ hk => Kd.freshB (g := gb578) (o := .cells #[.int .i64 t572, .int .i64 t573, .int .i64 t574, .string t575] 65 (0, 0)) kQ k_ hk)); (case aO => exact (by (with_reducible repeat first|apply rA|apply rD|apply r1); exact Kd.R_mono (Kd.R_far (p := ⟨gb578, 3, none⟩) (Kd.R_far (p := ⟨gb578, 2, none⟩) (Kd.R_far (p := ⟨gb578, 1, none⟩) (Kd.R_far (p := ⟨gb578, 0, none⟩) (Kd.R_mono HO_5.out (fun k_ hk => (⟨hk, hk.2⟩ : _ ∧ k_ ≠ gb578))) (fun _ hk => hk.2) (.int .i64 t572)) (fun _ hk => hk.2) (.int .i64 t573)) (fun _ hk => hk.2) (.int .i64 t574)) (fun _ hk => hk.2) (.string t575)) (fun _ hk => hk.1.2))); (case aS => exact (below_size bQ)); (case aL => have := LMc13.out; omega); intro v580 w18 ho hb hg hat; rw [← Ny579.out] at ho; have n0_ := aM (blk_grown (g := gb578) (o := .cells #[.int .i64 t572, .int .i64 t573, .int .i64 t574, .string t575] 65 (0, 0)) kQ hg (Kd.R_away HO_5.out (fun _ hk => hk.2))); have n1_ := aM hb; have n2_ := aM ho; clear BK578; clear HB; clear HO_5; have BK578 := n0_; have HB := n1_; have HO581 := n2_; clear n0_ n1_ n2_; clear ho hb hg hat))
   repeat (go_quiet (first | (go_at_call 39; (with_reducible refine (hornbookref04_Next.calls k1 a0 x6_1 t572 t573 t574 t575 t576 t577 _ A2.out).mono ?_); rintro e w14 ⟨rfl, hb⟩; replace HO_5 := rK HO_5 hb; replace HB := sB hb; clear hb) | ((with_reducible refine gD 7 ?_); refine bE 7 (cs := #[.int .i64 0, .int .i64 0, .int .i64 0, .string (⟨#[]⟩ : ByteArray)]) (t := 65) ?_; intro gb578 hg w15 hbox hb; replace HO_5 := aM (Kd.R_below (Kd.R_elderB (mQ HO_5) gb578 (Nat.le_of_eq hg.symm)) hb); have BK578 := aM hbox; have GW578 := sG w hg; have GE578 := sG w hg; replace HB := sB hb; clear hb hbox hg; obtain ⟨hcz16_0, hcz16_1, hcz16_2, hcz16_3, hfz16_0, hfz16_1, hfz16_2, hfz16_3⟩ := b4 BK578; obtain ⟨Ao17, co17, eo17⟩ := Kd.R_slice HO_5.out; subst eo17) | ((with_reducible refine gate_builtin (b := .append) (xs := #[.tmp 32, .tmp 34]) rfl ?_); at_builtin; refine Kd.R_append k65 (w0 := w) w.heap.size rfl (.tmp 32) (.tmp 34) 61 65 (.agg #[(.int .i64 0), (.int .i64 0), (.int .i64 0), (.string ⟨#[]⟩)]) 40 rfl Tryz.underlying61 info65 rfl (by decide) (by omega) (.slice Ao17 x5_1.length co17) x5_1 (⟨t572, t573, t574, t575⟩ : S65) [.int .i64 t572, .int .i64 t573, .int .i64 t574, .string t575] (fun k_ => k_ ≠ gb578) (fun _ => False) rfl (by first | (go_simp; done) | (go_simp; rfl)) ?aP (fun _ hk => hk.elim) ?aF ?aO ?aB ?aS ?aL ?_; (case aP => exact k65_mkM _ _ _ (⟨t572, t573, t574, t575⟩ : S65)); (case aB => exact bQ); (case aF => exact (fun k_ hk => Kd.freshB (g := gb578) (o := .cells #[.int .i64 t572, .int .i64 t573, .int .i64 t574, .string t575] 65 (0, 0)) kQ k_ hk)); (case aO => exact (by (with_reducible repeat first|apply rA|apply rD|apply r1); exact Kd.R_mono (Kd.R_far (p := ⟨gb578, 3, none⟩) (Kd.R_far (p := ⟨gb578, 2, none⟩) (Kd.R_far (p := ⟨gb578, 1, none⟩) (Kd.R_far (p := ⟨gb578, 0, none⟩) (Kd.R_mono HO_5.out (fun k_ hk => (⟨hk, hk.2⟩ : _ ∧ k_ ≠ gb578))) (fun _ hk => hk.2) (.int .i64 t572)) (fun _ hk => hk.2) (.int .i64 t573)) (fun _ hk => hk.2) (.int .i64 t574)) (fun _ hk => hk.2) (.string t575)) (fun _ hk => hk.1.2))); (case aS => exact (below_size bQ)); (case aL => have := LMc13.out; omega); intro v580 w18 ho hb hg hat; rw [← Ny579.out] at ho; have n0_ := aM (blk_grown (g := gb578) (o := .cells #[.int .i64 t572, .int .i64 t573, .int .i64 t574, .string t575] 65 (0, 0)) kQ hg (Kd.R_away HO_5.out (fun _ hk => hk.2))); have n1_ := aM hb; have n2_ := aM ho; clear BK578; clear HB; clear HO_5; have BK578 := n0_; have HB := n1_; have HO581 := n2_; clear n0_ n1_ n2_; clear ho hb hg hat)); try go_wp2_with (first | (go_at_call 39; (with_reducible refine (hornbookref04_Next.calls k1 a0 x6_1 t572 t573 t574 t575 t576 t577 _ A2.out).mono ?_); rintro e w14 ⟨rfl, hb⟩; replace HO_5 := rK HO_5 hb; replace HB := sB hb; clear hb) | ((with_reducible refine gD 7 ?_); refine bE 7 (cs := #[.int .i64 0, .int .i64 0, .int .i64 0, .string (⟨#[]⟩ : ByteArray)]) (t := 65) ?_; intro gb578 hg w15 hbox hb; replace HO_5 := aM (Kd.R_below (Kd.R_elderB (mQ HO_5) gb578 (Nat.le_of_eq hg.symm)) hb); have BK578 := aM hbox; have GW578 := sG w hg; have GE578 := sG w hg; replace HB := sB hb; clear hb hbox hg; obtain ⟨hcz16_0, hcz16_1, hcz16_2, hcz16_3, hfz16_0, hfz16_1, hfz16_2, hfz16_3⟩ := b4 BK578; obtain ⟨Ao17, co17, eo17⟩ := Kd.R_slice HO_5.out; subst eo17) | ((with_reducible refine gate_builtin (b := .append) (xs := #[.tmp 32, .tmp 34]) rfl ?_); at_builtin; refine Kd.R_append k65 (w0 := w) w.heap.size rfl (.tmp 32) (.tmp 34) 61 65 (.agg #[(.int .i64 0), (.int .i64 0), (.int .i64 0), (.string ⟨#[]⟩)]) 40 rfl Tryz.underlying61 info65 rfl (by decide) (by omega) (.slice Ao17 x5_1.length co17) x5_1 (⟨t572, t573, t574, t575⟩ : S65) [.int .i64 t572, .int .i64 t573, .int .i64 t574, .string t575] (fun k_ => k_ ≠ gb578) (fun _ => False) rfl (by first | (go_simp; done) | (go_simp; rfl)) ?aP (fun _ hk => hk.elim) ?aF ?aO ?aB ?aS ?aL ?_; (case aP => exact k65_mkM _ _ _ (⟨t572, t573, t574, t575⟩ : S65)); (case aB => exact bQ); (case aF => exact (fun k_ hk => Kd.freshB (g := gb578) (o := .cells #[.int .i64 t572, .int .i64 t573, .int .i64 t574, .string t575] 65 (0, 0)) kQ k_ hk)); (case aO => exact (by (with_reducible repeat first|apply rA|apply rD|apply r1); exact Kd.R_mono (Kd.R_far (p := ⟨gb578, 3, none⟩) (Kd.R_far (p := ⟨gb578, 2, none⟩) (Kd.R_far (p := ⟨gb578, 1, none⟩) (Kd.R_far (p := ⟨gb578, 0, none⟩) (Kd.R_mono HO_5.out (fun k_ hk => (⟨hk, hk.2⟩ : _ ∧ k_ ≠ gb578))) (fun _ hk => hk.2) (.int .i64 t572)) (fun _ hk => hk.2) (.int .i64 t573)) (fun _ hk => hk.2) (.int .i64 t574)) (fun _ hk => hk.2) (.string t575)) (fun _ hk => hk.1.2))); (case aS => exact (below_size bQ)); (case aL => have := LMc13.out; omega); intro v580 w18 ho hb hg hat; rw [← Ny579.out] at ho; have n0_ := aM (blk_grown (g := gb578) (o := .cells #[.int .i64 t572, .int .i64 t573, .int .i64 t574, .string t575] 65 (0, 0)) kQ hg (Kd.R_away HO_5.out (fun _ hk => hk.2))); have n1_ := aM hb; have n2_ := aM ho; clear BK578; clear HB; clear HO_5; have BK578 := n0_; have HB := n1_; have HO581 := n2_; clear n0_ n1_ n2_; clear ho hb hg hat)))
   go_roundg k1
   case measure => have := HK1.out; omega
   case rel => exact ⟨(y579), (t576), vQ, H', ⟨by have := HK1.out; omega⟩, ⟨by (with_reducible repeat first|apply rA|apply rD|apply r1); exact Kd.R_mono HO581.out (fun _ hk => trivial)⟩, ⟨bQ⟩⟩
end Go.Proofs.YtdcldaknmenklaaGreatDoor.M
end
section
/- Laid by this session's program hbprint.py out of the translation: the function hornbook/hornbookref17.Parse and its contract. -/
namespace Go.Proofs.YtdcldaknmenklaaGreatDoor.M
open Go.RowKit Go.Proofs.YtdcldaknmenklaaGreatDoorW.PrintWords Go.Proofs.YtdcldaknmenklaaGreatDoorW.PrintLast Go.Proofs.YtdcldaknmenklaaGreatDoorW.PrintMore
attribute [local go_sem] max2_int min2_int max_two min_two max_three min_three max_four min_four
set_option linter.unusedVariables false
set_option linter.unusedSimpArgs false
mutual
def hornbookref17_Parse.l0 : Nat → ByteArray → List (S65) → List (S34) → Bool → Int → Option ((List (S34)) × Int × Int)
 | 0, _, _, _, _, _ => none
 | k + 1, x0, x5, x8, x9, x10 => if x10 < (x5.length : Int) then (if 0 ≤ x10 then (if x10 = 0 then (hornbookref17_Parse.j1 k x0 x5 x8 x9 x10 (((rd_T65 x5 x10).f0) == 6) ((rd_T65 x5 x10).f0) ((rd_T65 x5 x10).f1) ((rd_T65 x5 x10).f2) ((rd_T65 x5 x10).f3)) else (hornbookref17_Parse.j1 k x0 x5 x8 x9 x10 false ((rd_T65 x5 x10).f0) ((rd_T65 x5 x10).f1) ((rd_T65 x5 x10).f2) ((rd_T65 x5 x10).f3))) else (none)) else (if x9 = true then (some (x8, (x0.size : Int), 0)) else (some (([] : List (S34)), (x0.size : Int), 2)))
def hornbookref17_Parse.j1 : Nat → ByteArray → List (S65) → List (S34) → Bool → Int → Bool → Int → Int → Int → ByteArray → Option ((List (S34)) × Int × Int)
 | 0, _, _, _, _, _, _, _, _, _, _ => none
 | k + 1, x0, x5, x8, x9, x10, x34, x589000, x589001, x589002, x589003 => if x34 = true then (hornbookref17_Parse.l0 k x0 x5 x8 false (wrap64 (x10 + 1))) else (if x10 > 0 then (if x9 = true then (hornbookref17_Parse.j2 k x0 x5 x8 x9 x10 false x589000 x589001 x589002 x589003) else (hornbookref17_Parse.j2 k x0 x5 x8 x9 x10 (x589000 == 1) x589000 x589001 x589002 x589003)) else (hornbookref17_Parse.j2 k x0 x5 x8 x9 x10 false x589000 x589001 x589002 x589003))
def hornbookref17_Parse.j2 : Nat → ByteArray → List (S65) → List (S34) → Bool → Int → Bool → Int → Int → Int → ByteArray → Option ((List (S34)) × Int × Int)
 | 0, _, _, _, _, _, _, _, _, _, _ => none
 | k + 1, x0, x5, x8, x9, x10, x42, x589000, x589001, x589002, x589003 => if x42 = true then (if x8.length < 4398046511104 then (hornbookref17_Parse.l0 k x0 x5 (x8 ++ [(⟨true, x589002, (⟨#[]⟩ : ByteArray)⟩ : S34)]) x9 (wrap64 (x10 + 1))) else (none)) else (if x10 > 0 then (if x9 = true then (hornbookref17_Parse.j3 k x0 x5 x8 x9 x10 false x589000 x589001 x589002 x589003) else (hornbookref17_Parse.j3 k x0 x5 x8 x9 x10 (x589000 == 2) x589000 x589001 x589002 x589003)) else (hornbookref17_Parse.j3 k x0 x5 x8 x9 x10 false x589000 x589001 x589002 x589003))
def hornbookref17_Parse.j3 : Nat → ByteArray → List (S65) → List (S34) → Bool → Int → Bool → Int → Int → Int → ByteArray → Option ((List (S34)) × Int × Int)
 | 0, _, _, _, _, _, _, _, _, _, _ => none
 | k + 1, x0, x5, x8, x9, x10, x60, x589000, x589001, x589002, x589003 => if x60 = true then (if x8.length < 4398046511104 then (hornbookref17_Parse.l0 k x0 x5 (x8 ++ [(⟨false, 0, x589003⟩ : S34)]) x9 (wrap64 (x10 + 1))) else (none)) else (if x10 > 0 then (if x9 = true then (some (([] : List (S34)), x589001, 3)) else (if x589000 = 7 then (hornbookref17_Parse.l0 k x0 x5 x8 true (wrap64 (x10 + 1))) else (some (([] : List (S34)), x589001, 3)))) else (some (([] : List (S34)), x589001, 3)))
end
def hornbookref17_Parse.f (k : Nat) (a0 : ByteArray) : Option ((List (S34)) × Int × Int) := (hornbookref04_All.f k a0).bind fun bt582 => (if bt582.2.2 = 0 then (hornbookref17_Parse.l0 k a0 bt582.1 ([] : List (S34)) false 0) else (some (([] : List (S34)), bt582.2.1, bt582.2.2)))
set_option maxHeartbeats 8000000 in
set_option maxRecDepth 100000 in
theorem hornbookref17_Parse.calls (k : Nat) (a0 : ByteArray) (r1 : List (S34)) (r2 : Int) (r3 : Int) (w : World) (h : hornbookref17_Parse.f k a0 = some (r1, r2, r3)) :
  Calls Tryz.prog 16 #[.string a0] w fun e w' => ∃ v0_ : Value, e = .returned (.tuple #[v0_, .int .i64 r2, .int .i64 r3]) ∧ Kd.R k34 34 w' w.heap.size (fun _ => True) v0_ r1 ∧ Below w.heap.size w w' := by
 have hu65 := Tryz.underlying65
 have hu34 := Tryz.underlying34
 have HB := aM (Below.refl w.heap.size w)
 have H : ((hornbookref04_All.f k a0).bind fun bt582 => (if bt582.2.2 = 0 then (hornbookref17_Parse.l0 k a0 bt582.1 ([] : List (S34)) false 0) else (some (([] : List (S34)), bt582.2.1, bt582.2.2)))) = some (r1, r2, r3) := h
 clear h
 replace H := bS H
 obtain ⟨⟨t582, t583, t584⟩, A2, H⟩ := H
 try dsimp only at H
 refine iEc H ?_ ?_<;>clear H<;>intro H c3b0 c3b1 c3
 rotate_left
 ·simp only [Option.some.injEq, Prod.mk.injEq] at H
  obtain ⟨rfl, rfl, rfl⟩ := H
  go_enter Tryz.func16, Tryz.ntmps16
  go_wp2_with (first | (go_at_call 31; (with_reducible refine (hornbookref04_All.calls k a0 t582 t583 t584 _ A2.out).mono ?_); rintro e w40 ⟨v585, rfl, ho0, hb⟩; have HO586 := lK ho0; replace HB := sB hb; clear hb ho0))
  repeat (go_quiet (first | (go_at_call 31; (with_reducible refine (hornbookref04_All.calls k a0 t582 t583 t584 _ A2.out).mono ?_); rintro e w40 ⟨v585, rfl, ho0, hb⟩; have HO586 := lK ho0; replace HB := sB hb; clear hb ho0)); try go_wp2_with (first | (go_at_call 31; (with_reducible refine (hornbookref04_All.calls k a0 t582 t583 t584 _ A2.out).mono ?_); rintro e w40 ⟨v585, rfl, ho0, hb⟩; have HO586 := lK ho0; replace HB := sB hb; clear hb ho0)))
  go_ret3
  exact ⟨_, eQ, by first | exact Kd.R_nil _ _ _ _ _ | exact Kd.N_nil _ _ _ _ _ | exact Kd.V_nil _ _ _ _ _ | exact Kd.Q_nil _ _ _ _ _ | exact Kd.S_nil _ _ _ _ _, bQ⟩
 clear c3
 have H' := aM H
 clear H
 go_enter Tryz.func16, Tryz.ntmps16
 go_wp2_with (first | (go_at_call 31; (with_reducible refine (hornbookref04_All.calls k a0 t582 t583 t584 _ A2.out).mono ?_); rintro e w4 ⟨v585, rfl, ho0, hb⟩; have HO586 := lK ho0; replace HB := sB hb; clear hb ho0))
 repeat (go_quiet (first | (go_at_call 31; (with_reducible refine (hornbookref04_All.calls k a0 t582 t583 t584 _ A2.out).mono ?_); rintro e w4 ⟨v585, rfl, ho0, hb⟩; have HO586 := lK ho0; replace HB := sB hb; clear hb ho0)); try go_wp2_with (first | (go_at_call 31; (with_reducible refine (hornbookref04_All.calls k a0 t582 t583 t584 _ A2.out).mono ?_); rintro e w4 ⟨v585, rfl, ho0, hb⟩; have HO586 := lK ho0; replace HB := sB hb; clear hb ho0)))
 go_loopg [8, 9, 10] k (fun kq v8 v9 v10 w' => ∃ (x8_1 : List (S34)) (x9_1 : Bool) (x10_1 : Int), v9 = .bool x9_1 ∧ v10 = .int .i64 x10_1 ∧ Aside0 (hornbookref17_Parse.l0 kq a0 t582 x8_1 x9_1 x10_1 = some (r1, r2, r3)) ∧ Aside0 (kq ≤ k) ∧ Aside0 (Kd.R k65 65 w' w.heap.size (fun _ => True) v585 t582) ∧ Aside0 (Kd.R k34 34 w' w.heap.size (fun _ => True) v8 x8_1) ∧ Aside0 (Below w.heap.size w w'))
 case atStart => exact ⟨(([] : List (S34))), (false), (0), vQ, vQ, H', ⟨Nat.le_refl _⟩, ⟨mQ HO586⟩, ⟨by first | exact Kd.R_nil _ _ _ _ _ | exact Kd.N_nil _ _ _ _ _ | exact Kd.V_nil _ _ _ _ _ | exact Kd.Q_nil _ _ _ _ _ | exact Kd.S_nil _ _ _ _ _⟩, ⟨bQ⟩⟩
 case round =>
  clear H'
  try clear c1
  try clear p2
  try clear c3
  try clear c3b0
  try clear c3b1
  obtain ⟨x8_1, x9_1, x10_1, rfl, rfl, HA, HK1, HO_5, HO_8, HB⟩ := hrel
  cases gk with
  | zero => exact absurd HA.out (by simp [hornbookref17_Parse.l0])
  | succ k1 =>
   have H := HA.out
   clear HA
   simp only [hornbookref17_Parse.l0] at H
   refine iD H ?_ ?_<;>clear H<;>intro H c5b0
   rotate_left
   ·by_cases c37 : x9_1 = true
    ·subst c37
     rw [if_pos rfl] at H
     simp only [Option.some.injEq, Prod.mk.injEq] at H
     obtain ⟨rfl, rfl, rfl⟩ := H
     obtain ⟨Ao38, co38, eo38⟩ := Kd.R_slice HO_5.out
     subst eo38
     go_wp2
     repeat (go_quiet (fail); try go_wp2)
     go_ret3
     exact ⟨_, eQ, mQ HO_8, bQ⟩
    replace c37 := Bool.eq_false_iff.mpr c37
    subst c37
    rw [if_neg (show ¬ (false = true) by decide)] at H
    simp only [Option.some.injEq, Prod.mk.injEq] at H
    obtain ⟨rfl, rfl, rfl⟩ := H
    obtain ⟨Ao39, co39, eo39⟩ := Kd.R_slice HO_5.out
    subst eo39
    go_wp2
    repeat (go_quiet (fail); try go_wp2)
    go_ret3
    exact ⟨_, eQ, by first | exact Kd.R_nil _ _ _ _ _ | exact Kd.N_nil _ _ _ _ _ | exact Kd.V_nil _ _ _ _ _ | exact Kd.Q_nil _ _ _ _ _ | exact Kd.S_nil _ _ _ _ _, bQ⟩
   refine iD H ?_ ?_<;>clear H<;>intro H c6b0
   rotate_left
   ·exact absurd H (by simp)
   have HC7 := aM H
   clear H
   obtain ⟨Ao8, co8, eo8⟩ := Kd.R_slice HO_5.out
   subst eo8
   have p587 : 0 ≤ (x10_1 : Int) := of_decide_eq_true hQ
   have q587 : x10_1 < (t582.length : Int) := of_decide_eq_true hQ
   obtain ⟨ad587, e587, hx587_0, hx587_1, hx587_2, hx587_3⟩ := at_T65 (Kd.R_reads' HO_5.out).2.2 x10_1 p587 q587
   cases e587
   replace p587 := eq_true p587
   replace q587 := eq_true q587
   go_upto_region 11 with (first | ((with_reducible refine gD 11 ?_); refine bE 11 (cs := #[.int .i64 0, .int .i64 0, .int .i64 0, .string (⟨#[]⟩ : ByteArray)]) (t := 65) ?_; intro gb588 hg w9 hbox hb; replace HO_5 := aM (Kd.R_below (Kd.R_elderB (mQ HO_5) gb588 (Nat.le_of_eq hg.symm)) hb); replace HO_8 := rK HO_8 hb; have BK588 := aM hbox; have GW588 := sG w hg; have GE588 := sG w hg; replace HB := sB hb; clear hb hbox hg; obtain ⟨hcz10_0, hcz10_1, hcz10_2, hcz10_3, hfz10_0, hfz10_1, hfz10_2, hfz10_3⟩ := b4 BK588))
   repeat (go_quiet (first | ((with_reducible refine gD 11 ?_); refine bE 11 (cs := #[.int .i64 0, .int .i64 0, .int .i64 0, .string (⟨#[]⟩ : ByteArray)]) (t := 65) ?_; intro gb588 hg w9 hbox hb; replace HO_5 := aM (Kd.R_below (Kd.R_elderB (mQ HO_5) gb588 (Nat.le_of_eq hg.symm)) hb); replace HO_8 := rK HO_8 hb; have BK588 := aM hbox; have GW588 := sG w hg; have GE588 := sG w hg; replace HB := sB hb; clear hb hbox hg; obtain ⟨hcz10_0, hcz10_1, hcz10_2, hcz10_3, hfz10_0, hfz10_1, hfz10_2, hfz10_3⟩ := b4 BK588)); go_upto_region 11 with (first | ((with_reducible refine gD 11 ?_); refine bE 11 (cs := #[.int .i64 0, .int .i64 0, .int .i64 0, .string (⟨#[]⟩ : ByteArray)]) (t := 65) ?_; intro gb588 hg w9 hbox hb; replace HO_5 := aM (Kd.R_below (Kd.R_elderB (mQ HO_5) gb588 (Nat.le_of_eq hg.symm)) hb); replace HO_8 := rK HO_8 hb; have BK588 := aM hbox; have GW588 := sG w hg; have GE588 := sG w hg; replace HB := sB hb; clear hb hbox hg; obtain ⟨hcz10_0, hcz10_1, hcz10_2, hcz10_3, hfz10_0, hfz10_1, hfz10_2, hfz10_3⟩ := b4 BK588)))
   (try simp only [Act.put, List.setIfInBounds_toArray, List.set_cons_zero, List.set_cons_succ])
   go_cut [34] (fun v34 wc => ∃ (kq : Nat) (x34_6 : Bool), v34 = .bool x34_6 ∧ Aside0 (hornbookref17_Parse.j1 kq a0 t582 x8_1 x9_1 x10_1 x34_6 ((rd_T65 t582 x10_1).f0) ((rd_T65 t582 x10_1).f1) ((rd_T65 t582 x10_1).f2) ((rd_T65 t582 x10_1).f3) = some (r1, r2, r3)) ∧ Aside0 (kq ≤ k1) ∧ Aside0 (Kd.R k65 65 wc w.heap.size (fun k_ => k_ ≠ gb588) (.slice (some ad587) t582.length co8) t582) ∧ Aside0 (Kd.R k34 34 wc w.heap.size (fun _ => True) u8 x8_1) ∧ Aside0 (wc.heap[gb588]? = some (.cells #[.int .i64 ((rd_T65 t582 x10_1).f0), .int .i64 ((rd_T65 t582 x10_1).f1), .int .i64 ((rd_T65 t582 x10_1).f2), .string ((rd_T65 t582 x10_1).f3)] 65 (0, 0))) ∧ Aside0 (Below w.heap.size w wc))
   case first =>
    have H := HC7.out
    clear HC7
    refine iEc H ?_ ?_<;>clear H<;>intro H c11b0 c11b1 c11
    rotate_left
    ·(first | rw [c11b0] | (simp only [i64_w, i32_w]; rw [c11b0]) | skip)
     have H' := aM H
     clear H
     go_wp2
     repeat (go_quiet (fail); try go_wp2)
     go_meet
     case rel => exact ⟨_, (false), vQ, H', ⟨by have := HK1.out; first | omega | exact Nat.le_refl _⟩, ⟨by (with_reducible repeat first|apply rA|apply rD|apply r1); exact Kd.R_mono (Kd.R_far (p := ⟨gb588, 3, none⟩) (Kd.R_far (p := ⟨gb588, 2, none⟩) (Kd.R_far (p := ⟨gb588, 1, none⟩) (Kd.R_far (p := ⟨gb588, 0, none⟩) (Kd.R_mono HO_5.out (fun k_ hk => (⟨hk, hk.2⟩ : _ ∧ k_ ≠ gb588))) (fun _ hk => hk.2) (.int .i64 ((rd_T65 t582 x10_1).f0))) (fun _ hk => hk.2) (.int .i64 ((rd_T65 t582 x10_1).f1))) (fun _ hk => hk.2) (.int .i64 ((rd_T65 t582 x10_1).f2))) (fun _ hk => hk.2) (.string ((rd_T65 t582 x10_1).f3))) (fun _ hk => hk.1.2)⟩, ⟨by (with_reducible repeat first|apply rA|apply rD|apply r1); exact Kd.R_mono (Kd.R_far (p := ⟨gb588, 3, none⟩) (Kd.R_far (p := ⟨gb588, 2, none⟩) (Kd.R_far (p := ⟨gb588, 1, none⟩) (Kd.R_far (p := ⟨gb588, 0, none⟩) (Kd.R_types HO_8.out BK588.out (by decide)) (fun _ hk => hk.2) (.int .i64 ((rd_T65 t582 x10_1).f0))) (fun _ hk => hk.2) (.int .i64 ((rd_T65 t582 x10_1).f1))) (fun _ hk => hk.2) (.int .i64 ((rd_T65 t582 x10_1).f2))) (fun _ hk => hk.2) (.string ((rd_T65 t582 x10_1).f3))) (fun _ hk => trivial)⟩, ⟨kQ⟩, ⟨bQ⟩⟩
    clear c11
    (first | rw [c11b0] | (simp only [i64_w, i32_w]; rw [c11b0]) | skip)
    have H' := aM H
    clear H
    have hcz12_0 : w9.cell? ⟨gb588, 0, none⟩ = some (.int .i64 0) := (blk_cell BK588.out 0).trans rfl
    have hcz12_1 : w9.cell? ⟨gb588, 1, none⟩ = some (.int .i64 0) := (blk_cell BK588.out 1).trans rfl
    have hcz12_2 : w9.cell? ⟨gb588, 2, none⟩ = some (.int .i64 0) := (blk_cell BK588.out 2).trans rfl
    have hcz12_3 : w9.cell? ⟨gb588, 3, none⟩ = some (.string (⟨#[]⟩ : ByteArray)) := (blk_cell BK588.out 3).trans rfl
    have hfz12_0 := blk_frozen BK588.out 0
    have hfz12_1 := blk_frozen BK588.out 1
    have hfz12_2 := blk_frozen BK588.out 2
    have hfz12_3 := blk_frozen BK588.out 3
    go_wp2
    repeat (go_quiet (fail); try go_wp2)
    go_meet
    case rel => exact ⟨_, ((((rd_T65 t582 x10_1).f0) == 6)), vQ, H', ⟨by have := HK1.out; first | omega | exact Nat.le_refl _⟩, ⟨by (with_reducible repeat first|apply rA|apply rD|apply r1); exact Kd.R_mono (Kd.R_far (p := ⟨gb588, 3, none⟩) (Kd.R_far (p := ⟨gb588, 2, none⟩) (Kd.R_far (p := ⟨gb588, 1, none⟩) (Kd.R_far (p := ⟨gb588, 0, none⟩) (Kd.R_mono HO_5.out (fun k_ hk => (⟨hk, hk.2⟩ : _ ∧ k_ ≠ gb588))) (fun _ hk => hk.2) (.int .i64 ((rd_T65 t582 x10_1).f0))) (fun _ hk => hk.2) (.int .i64 ((rd_T65 t582 x10_1).f1))) (fun _ hk => hk.2) (.int .i64 ((rd_T65 t582 x10_1).f2))) (fun _ hk => hk.2) (.string ((rd_T65 t582 x10_1).f3))) (fun _ hk => hk.1.2)⟩, ⟨by (with_reducible repeat first|apply rA|apply rD|apply r1); exact Kd.R_mono (Kd.R_far (p := ⟨gb588, 3, none⟩) (Kd.R_far (p := ⟨gb588, 2, none⟩) (Kd.R_far (p := ⟨gb588, 1, none⟩) (Kd.R_far (p := ⟨gb588, 0, none⟩) (Kd.R_types HO_8.out BK588.out (by decide)) (fun _ hk => hk.2) (.int .i64 ((rd_T65 t582 x10_1).f0))) (fun _ hk => hk.2) (.int .i64 ((rd_T65 t582 x10_1).f1))) (fun _ hk => hk.2) (.int .i64 ((rd_T65 t582 x10_1).f2))) (fun _ hk => hk.2) (.string ((rd_T65 t582 x10_1).f3))) (fun _ hk => trivial)⟩, ⟨kQ⟩, ⟨bQ⟩⟩
   case rest =>
    clear HC7
    try clear c1
    try clear p2
    try clear c3
    try clear c3b0
    try clear c3b1
    try clear c5
    try clear c5b0
    try clear p5
    try clear q5
    try clear hx5
    try clear c6
    try clear c6b0
    try clear c11
    try clear c11b0
    try clear c11b1
    try clear hcz10_0
    try clear hcz10_1
    try clear hcz10_2
    try clear hcz10_3
    try clear hcz12_0
    try clear hcz12_1
    try clear hcz12_2
    try clear hcz12_3
    try clear hfz10_0
    try clear hfz10_1
    try clear hfz10_2
    try clear hfz10_3
    try clear hfz12_0
    try clear hfz12_1
    try clear hfz12_2
    try clear hfz12_3
    try clear hx587_0
    try clear hx587_1
    try clear hx587_2
    try clear hx587_3
    try clear p2
    try clear p587
    try clear q587
    obtain ⟨kq, x34_6, rfl, HA, HJ6, HO_5, HO_8, BK588, HB⟩ := hcut
    cases kq with
    | zero => exact absurd HA.out (by simp [hornbookref17_Parse.j1])
    | succ kj6 =>
     have H := HA.out
     clear HA
     simp only [hornbookref17_Parse.j1] at H
     by_cases c13 : x34_6 = true
     ·subst c13
      rw [if_pos rfl] at H
      have H' := aM H
      clear H
      go_wp2
      repeat (go_quiet (fail); try go_wp2)
      go_roundg kj6
      case measure => have := HK1.out; have := HJ6.out; omega
      case rel => exact ⟨(x8_1), (false), (wrap64 (x10_1 + 1)), vQ, vQ, H', ⟨by have := HK1.out; have := HJ6.out; omega⟩, ⟨by (with_reducible repeat first|apply rA|apply rD|apply r1); exact Kd.R_mono HO_5.out (fun _ hk => trivial)⟩, ⟨mQ HO_8⟩, ⟨bQ⟩⟩
     replace c13 := Bool.eq_false_iff.mpr c13
     subst c13
     rw [if_neg (show ¬ (false = true) by decide)] at H
     have HC14 := aM H
     clear H
     go_upto_region 13 with (fail)
     repeat (go_quiet (fail); go_upto_region 13 with (fail))
     go_cut [42] (fun v42 wc => ∃ (kq : Nat) (x42_13 : Bool), v42 = .bool x42_13 ∧ Aside0 (hornbookref17_Parse.j2 kq a0 t582 x8_1 x9_1 x10_1 x42_13 ((rd_T65 t582 x10_1).f0) ((rd_T65 t582 x10_1).f1) ((rd_T65 t582 x10_1).f2) ((rd_T65 t582 x10_1).f3) = some (r1, r2, r3)) ∧ Aside0 (kq ≤ kj6) ∧ Aside0 (Kd.R k65 65 wc w.heap.size (fun k_ => k_ ≠ gb588) (.slice (some ad587) t582.length co8) t582) ∧ Aside0 (Kd.R k34 34 wc w.heap.size (fun _ => True) u8 x8_1) ∧ Aside0 (wc.heap[gb588]? = some (.cells #[.int .i64 ((rd_T65 t582 x10_1).f0), .int .i64 ((rd_T65 t582 x10_1).f1), .int .i64 ((rd_T65 t582 x10_1).f2), .string ((rd_T65 t582 x10_1).f3)] 65 (0, 0))) ∧ Aside0 (Below w.heap.size w wc))
     case first =>
      have H := HC14.out
      clear HC14
      refine iNc H ?_ ?_<;>clear H<;>intro H c15
      rotate_left
      ·have c15b0 : decide (0 < x10_1) = false := decide_eq_false c15
       clear c15
       (first | rw [c15b0] | (simp only [i64_w, i32_w]; rw [c15b0]) | skip)
       have H' := aM H
       clear H
       go_wp2
       repeat (go_quiet (fail); try go_wp2)
       go_meet
       case rel => exact ⟨_, (false), vQ, H', ⟨by have := HK1.out; have := HJ6.out; first | omega | exact Nat.le_refl _⟩, ⟨mQ HO_5⟩, ⟨mQ HO_8⟩, ⟨kQ⟩, ⟨bQ⟩⟩
      have c15b0 : decide (0 < x10_1) = true := decide_eq_true c15
      clear c15
      (first | rw [c15b0] | (simp only [i64_w, i32_w]; rw [c15b0]) | skip)
      by_cases c16 : x9_1 = true
      ·subst c16
       rw [if_pos rfl] at H
       have H' := aM H
       clear H
       go_wp2
       repeat (go_quiet (fail); try go_wp2)
       go_meet
       case rel => exact ⟨_, (false), vQ, H', ⟨by have := HK1.out; have := HJ6.out; first | omega | exact Nat.le_refl _⟩, ⟨mQ HO_5⟩, ⟨mQ HO_8⟩, ⟨kQ⟩, ⟨bQ⟩⟩
      replace c16 := Bool.eq_false_iff.mpr c16
      subst c16
      rw [if_neg (show ¬ (false = true) by decide)] at H
      have H' := aM H
      clear H
      have hcz17_0 : wc.cell? ⟨gb588, 0, none⟩ = some (.int .i64 ((rd_T65 t582 x10_1).f0)) := (blk_cell BK588.out 0).trans rfl
      have hcz17_1 : wc.cell? ⟨gb588, 1, none⟩ = some (.int .i64 ((rd_T65 t582 x10_1).f1)) := (blk_cell BK588.out 1).trans rfl
      have hcz17_2 : wc.cell? ⟨gb588, 2, none⟩ = some (.int .i64 ((rd_T65 t582 x10_1).f2)) := (blk_cell BK588.out 2).trans rfl
      have hcz17_3 : wc.cell? ⟨gb588, 3, none⟩ = some (.string ((rd_T65 t582 x10_1).f3)) := (blk_cell BK588.out 3).trans rfl
      have hfz17_0 := blk_frozen BK588.out 0
      have hfz17_1 := blk_frozen BK588.out 1
      have hfz17_2 := blk_frozen BK588.out 2
      have hfz17_3 := blk_frozen BK588.out 3
      go_wp2
      repeat (go_quiet (fail); try go_wp2)
      go_meet
      case rel => exact ⟨_, ((((rd_T65 t582 x10_1).f0) == 1)), vQ, H', ⟨by have := HK1.out; have := HJ6.out; first | omega | exact Nat.le_refl _⟩, ⟨mQ HO_5⟩, ⟨mQ HO_8⟩, ⟨kQ⟩, ⟨bQ⟩⟩
     case rest =>
      clear HC14
      try clear c1
      try clear p2
      try clear c3
      try clear c3b0
      try clear c3b1
      try clear c5
      try clear c5b0
      try clear p5
      try clear q5
      try clear hx5
      try clear c6
      try clear c6b0
      try clear p6
      try clear c11
      try clear c11b0
      try clear c11b1
      try clear c13
      try clear c15
      try clear c15b0
      try clear c16
      try clear hcz10_0
      try clear hcz10_1
      try clear hcz10_2
      try clear hcz10_3
      try clear hcz12_0
      try clear hcz12_1
      try clear hcz12_2
      try clear hcz12_3
      try clear hcz17_0
      try clear hcz17_1
      try clear hcz17_2
      try clear hcz17_3
      try clear hfz10_0
      try clear hfz10_1
      try clear hfz10_2
      try clear hfz10_3
      try clear hfz12_0
      try clear hfz12_1
      try clear hfz12_2
      try clear hfz12_3
      try clear hfz17_0
      try clear hfz17_1
      try clear hfz17_2
      try clear hfz17_3
      try clear hx587_0
      try clear hx587_1
      try clear hx587_2
      try clear hx587_3
      try clear p2
      try clear p5
      try clear p587
      try clear q5
      try clear q587
      obtain ⟨kq, x42_13, rfl, HA, HJ13, HO_5, HO_8, BK588, HB⟩ := hcut
      cases kq with
      | zero => exact absurd HA.out (by simp [hornbookref17_Parse.j2])
      | succ kj13 =>
       have H := HA.out
       clear HA
       simp only [hornbookref17_Parse.j2] at H
       by_cases c18 : x42_13 = true
       ·subst c18
        rw [if_pos rfl] at H
        refine iNc H ?_ ?_<;>clear H<;>intro H c19
        rotate_left
        ·exact absurd H (by simp)
        have LMc19 := aM c19
        clear c19
        obtain ⟨y589, hy589⟩ : ∃ y_ : List (S34), y_ = (x8_1 ++ [(⟨true, ((rd_T65 t582 x10_1).f2), (⟨#[]⟩ : ByteArray)⟩ : S34)]) := ⟨_, rfl⟩
        replace H : (hornbookref17_Parse.l0 kj13 a0 t582 y589 x9_1 (wrap64 (x10_1 + 1))) = some (r1, r2, r3) := by first | (rw [hy589]; with_reducible exact H) | (have H2_ := (Option.bind_some _ _).symm.trans H; rw [hy589]; with_reducible exact H2_) | (have H2_ := (Option.bind_some _ _).symm.trans H; with_reducible exact H2_) | with_reducible exact H | (rw [hy589]; exact H) | exact H
        have Ny589 := aM hy589
        clear hy589
        have H' := aM H
        clear H
        have hcz20_0 : wc.cell? ⟨gb588, 0, none⟩ = some (.int .i64 ((rd_T65 t582 x10_1).f0)) := (blk_cell BK588.out 0).trans rfl
        have hcz20_1 : wc.cell? ⟨gb588, 1, none⟩ = some (.int .i64 ((rd_T65 t582 x10_1).f1)) := (blk_cell BK588.out 1).trans rfl
        have hcz20_2 : wc.cell? ⟨gb588, 2, none⟩ = some (.int .i64 ((rd_T65 t582 x10_1).f2)) := (blk_cell BK588.out 2).trans rfl
        have hcz20_3 : wc.cell? ⟨gb588, 3, none⟩ = some (.string ((rd_T65 t582 x10_1).f3)) := (blk_cell BK588.out 3).trans rfl
        have hfz20_0 := blk_frozen BK588.out 0
        have hfz20_1 := blk_frozen BK588.out 1
        have hfz20_2 := blk_frozen BK588.out 2
        have hfz20_3 := blk_frozen BK588.out 3
        go_wp2_with (first | ((with_reducible refine gate_builtin (b := .append) (xs := #[.tmp 54, .tmp 58]) rfl ?_); at_builtin; refine Kd.R_append k34 (w0 := w) w.heap.size rfl (.tmp 54) (.tmp 58) 22 34 (.agg #[(.bool false), (.int .i64 0), (.string ⟨#[]⟩)]) 32 rfl Tryz.underlying22 info34 rfl (by decide) (by omega) u8 x8_1 (⟨true, ((rd_T65 t582 x10_1).f2), (⟨#[]⟩ : ByteArray)⟩ : S34) [.bool true, .int .i64 ((rd_T65 t582 x10_1).f2), .string (⟨#[]⟩ : ByteArray)] (fun _ => True) (fun _ => False) rfl rfl ?aP (fun _ hk => hk.elim) ?aF ?aO ?aB ?aS ?aL ?_; (case aP => exact k34_mkM _ _ _ (⟨true, ((rd_T65 t582 x10_1).f2), (⟨#[]⟩ : ByteArray)⟩ : S34)); (case aB => exact bQ); (case aF => exact (fun _ _ => trivial)); (case aO => exact (mQ HO_8)); (case aS => exact (below_size bQ)); (case aL => have := LMc19.out; omega); intro v590 w21 ho hb hg hat; rw [← Ny589.out] at ho; have n0_ := aM (Kd.R_over' (mQ HO_5) (Kd.R_typed (mQ HO_8)) (by decide) hg); have n1_ := aM (blk_grown (g := gb588) (o := .cells #[.int .i64 ((rd_T65 t582 x10_1).f0), .int .i64 ((rd_T65 t582 x10_1).f1), .int .i64 ((rd_T65 t582 x10_1).f2), .string ((rd_T65 t582 x10_1).f3)] 65 (0, 0)) kQ hg (Kd.R_ne HO_8.out BK588.out (by decide))); have n2_ := aM hb; have n3_ := aM ho; clear HO_5; clear BK588; clear HB; clear HO_8; have HO_5 := n0_; have BK588 := n1_; have HB := n2_; have HO591 := n3_; clear n0_ n1_ n2_ n3_; clear ho hb hg hat))
        repeat (go_quiet (first | ((with_reducible refine gate_builtin (b := .append) (xs := #[.tmp 54, .tmp 58]) rfl ?_); at_builtin; refine Kd.R_append k34 (w0 := w) w.heap.size rfl (.tmp 54) (.tmp 58) 22 34 (.agg #[(.bool false), (.int .i64 0), (.string ⟨#[]⟩)]) 32 rfl Tryz.underlying22 info34 rfl (by decide) (by omega) u8 x8_1 (⟨true, ((rd_T65 t582 x10_1).f2), (⟨#[]⟩ : ByteArray)⟩ : S34) [.bool true, .int .i64 ((rd_T65 t582 x10_1).f2), .string (⟨#[]⟩ : ByteArray)] (fun _ => True) (fun _ => False) rfl rfl ?aP (fun _ hk => hk.elim) ?aF ?aO ?aB ?aS ?aL ?_; (case aP => exact k34_mkM _ _ _ (⟨true, ((rd_T65 t582 x10_1).f2), (⟨#[]⟩ : ByteArray)⟩ : S34)); (case aB => exact bQ); (case aF => exact (fun _ _ => trivial)); (case aO => exact (mQ HO_8)); (case aS => exact (below_size bQ)); (case aL => have := LMc19.out; omega); intro v590 w21 ho hb hg hat; rw [← Ny589.out] at ho; have n0_ := aM (Kd.R_over' (mQ HO_5) (Kd.R_typed (mQ HO_8)) (by decide) hg); have n1_ := aM (blk_grown (g := gb588) (o := .cells #[.int .i64 ((rd_T65 t582 x10_1).f0), .int .i64 ((rd_T65 t582 x10_1).f1), .int .i64 ((rd_T65 t582 x10_1).f2), .string ((rd_T65 t582 x10_1).f3)] 65 (0, 0)) kQ hg (Kd.R_ne HO_8.out BK588.out (by decide))); have n2_ := aM hb; have n3_ := aM ho; clear HO_5; clear BK588; clear HB; clear HO_8; have HO_5 := n0_; have BK588 := n1_; have HB := n2_; have HO591 := n3_; clear n0_ n1_ n2_ n3_; clear ho hb hg hat)); try go_wp2_with (first | ((with_reducible refine gate_builtin (b := .append) (xs := #[.tmp 54, .tmp 58]) rfl ?_); at_builtin; refine Kd.R_append k34 (w0 := w) w.heap.size rfl (.tmp 54) (.tmp 58) 22 34 (.agg #[(.bool false), (.int .i64 0), (.string ⟨#[]⟩)]) 32 rfl Tryz.underlying22 info34 rfl (by decide) (by omega) u8 x8_1 (⟨true, ((rd_T65 t582 x10_1).f2), (⟨#[]⟩ : ByteArray)⟩ : S34) [.bool true, .int .i64 ((rd_T65 t582 x10_1).f2), .string (⟨#[]⟩ : ByteArray)] (fun _ => True) (fun _ => False) rfl rfl ?aP (fun _ hk => hk.elim) ?aF ?aO ?aB ?aS ?aL ?_; (case aP => exact k34_mkM _ _ _ (⟨true, ((rd_T65 t582 x10_1).f2), (⟨#[]⟩ : ByteArray)⟩ : S34)); (case aB => exact bQ); (case aF => exact (fun _ _ => trivial)); (case aO => exact (mQ HO_8)); (case aS => exact (below_size bQ)); (case aL => have := LMc19.out; omega); intro v590 w21 ho hb hg hat; rw [← Ny589.out] at ho; have n0_ := aM (Kd.R_over' (mQ HO_5) (Kd.R_typed (mQ HO_8)) (by decide) hg); have n1_ := aM (blk_grown (g := gb588) (o := .cells #[.int .i64 ((rd_T65 t582 x10_1).f0), .int .i64 ((rd_T65 t582 x10_1).f1), .int .i64 ((rd_T65 t582 x10_1).f2), .string ((rd_T65 t582 x10_1).f3)] 65 (0, 0)) kQ hg (Kd.R_ne HO_8.out BK588.out (by decide))); have n2_ := aM hb; have n3_ := aM ho; clear HO_5; clear BK588; clear HB; clear HO_8; have HO_5 := n0_; have BK588 := n1_; have HB := n2_; have HO591 := n3_; clear n0_ n1_ n2_ n3_; clear ho hb hg hat)))
        go_roundg kj13
        case measure => have := HK1.out; have := HJ6.out; have := HJ13.out; omega
        case rel => exact ⟨(y589), (x9_1), (wrap64 (x10_1 + 1)), vQ, vQ, H', ⟨by have := HK1.out; have := HJ6.out; have := HJ13.out; omega⟩, ⟨by (with_reducible repeat first|apply rA|apply rD|apply r1); exact Kd.R_mono HO_5.out (fun _ hk => trivial)⟩, ⟨mQ HO591⟩, ⟨bQ⟩⟩
       replace c18 := Bool.eq_false_iff.mpr c18
       subst c18
       rw [if_neg (show ¬ (false = true) by decide)] at H
       have HC22 := aM H
       clear H
       go_upto_region 15 with (fail)
       repeat (go_quiet (fail); go_upto_region 15 with (fail))
       go_cut [60] (fun v60 wc => ∃ (kq : Nat) (x60_21 : Bool), v60 = .bool x60_21 ∧ Aside0 (hornbookref17_Parse.j3 kq a0 t582 x8_1 x9_1 x10_1 x60_21 ((rd_T65 t582 x10_1).f0) ((rd_T65 t582 x10_1).f1) ((rd_T65 t582 x10_1).f2) ((rd_T65 t582 x10_1).f3) = some (r1, r2, r3)) ∧ Aside0 (kq ≤ kj13) ∧ Aside0 (Kd.R k65 65 wc w.heap.size (fun k_ => k_ ≠ gb588) (.slice (some ad587) t582.length co8) t582) ∧ Aside0 (Kd.R k34 34 wc w.heap.size (fun _ => True) u8 x8_1) ∧ Aside0 (wc.heap[gb588]? = some (.cells #[.int .i64 ((rd_T65 t582 x10_1).f0), .int .i64 ((rd_T65 t582 x10_1).f1), .int .i64 ((rd_T65 t582 x10_1).f2), .string ((rd_T65 t582 x10_1).f3)] 65 (0, 0))) ∧ Aside0 (Below w.heap.size w wc))
       case first =>
        have H := HC22.out
        clear HC22
        refine iNc H ?_ ?_<;>clear H<;>intro H c23
        rotate_left
        ·have c23b0 : decide (0 < x10_1) = false := decide_eq_false c23
         clear c23
         (first | rw [c23b0] | (simp only [i64_w, i32_w]; rw [c23b0]) | skip)
         have H' := aM H
         clear H
         go_wp2
         repeat (go_quiet (fail); try go_wp2)
         go_meet
         case rel => exact ⟨_, (false), vQ, H', ⟨by have := HK1.out; have := HJ6.out; have := HJ13.out; first | omega | exact Nat.le_refl _⟩, ⟨mQ HO_5⟩, ⟨mQ HO_8⟩, ⟨kQ⟩, ⟨bQ⟩⟩
        have c23b0 : decide (0 < x10_1) = true := decide_eq_true c23
        clear c23
        (first | rw [c23b0] | (simp only [i64_w, i32_w]; rw [c23b0]) | skip)
        by_cases c24 : x9_1 = true
        ·subst c24
         rw [if_pos rfl] at H
         have H' := aM H
         clear H
         go_wp2
         repeat (go_quiet (fail); try go_wp2)
         go_meet
         case rel => exact ⟨_, (false), vQ, H', ⟨by have := HK1.out; have := HJ6.out; have := HJ13.out; first | omega | exact Nat.le_refl _⟩, ⟨mQ HO_5⟩, ⟨mQ HO_8⟩, ⟨kQ⟩, ⟨bQ⟩⟩
        replace c24 := Bool.eq_false_iff.mpr c24
        subst c24
        rw [if_neg (show ¬ (false = true) by decide)] at H
        have H' := aM H
        clear H
        have hcz25_0 : wc.cell? ⟨gb588, 0, none⟩ = some (.int .i64 ((rd_T65 t582 x10_1).f0)) := (blk_cell BK588.out 0).trans rfl
        have hcz25_1 : wc.cell? ⟨gb588, 1, none⟩ = some (.int .i64 ((rd_T65 t582 x10_1).f1)) := (blk_cell BK588.out 1).trans rfl
        have hcz25_2 : wc.cell? ⟨gb588, 2, none⟩ = some (.int .i64 ((rd_T65 t582 x10_1).f2)) := (blk_cell BK588.out 2).trans rfl
        have hcz25_3 : wc.cell? ⟨gb588, 3, none⟩ = some (.string ((rd_T65 t582 x10_1).f3)) := (blk_cell BK588.out 3).trans rfl
        have hfz25_0 := blk_frozen BK588.out 0
        have hfz25_1 := blk_frozen BK588.out 1
        have hfz25_2 := blk_frozen BK588.out 2
        have hfz25_3 := blk_frozen BK588.out 3
        go_wp2
        repeat (go_quiet (fail); try go_wp2)
        go_meet
        case rel => exact ⟨_, ((((rd_T65 t582 x10_1).f0) == 2)), vQ, H', ⟨by have := HK1.out; have := HJ6.out; have := HJ13.out; first | omega | exact Nat.le_refl _⟩, ⟨mQ HO_5⟩, ⟨mQ HO_8⟩, ⟨kQ⟩, ⟨bQ⟩⟩
       case rest =>
        clear HC22
        try clear c1
        try clear c2
        try clear p2
        try clear c3
        try clear c3b0
        try clear c3b1
        try clear c5
        try clear c5b0
        try clear p5
        try clear q5
        try clear hx5
        try clear c6
        try clear c6b0
        try clear p6
        try clear c11
        try clear c11b0
        try clear c11b1
        try clear c13
        try clear c15
        try clear c15b0
        try clear c16
        try clear c18
        try clear c19
        try clear c23
        try clear c23b0
        try clear c24
        try clear hcz10_0
        try clear hcz10_1
        try clear hcz10_2
        try clear hcz10_3
        try clear hcz12_0
        try clear hcz12_1
        try clear hcz12_2
        try clear hcz12_3
        try clear hcz17_0
        try clear hcz17_1
        try clear hcz17_2
        try clear hcz17_3
        try clear hcz20_0
        try clear hcz20_1
        try clear hcz20_2
        try clear hcz20_3
        try clear hcz25_0
        try clear hcz25_1
        try clear hcz25_2
        try clear hcz25_3
        try clear hfz10_0
        try clear hfz10_1
        try clear hfz10_2
        try clear hfz10_3
        try clear hfz12_0
        try clear hfz12_1
        try clear hfz12_2
        try clear hfz12_3
        try clear hfz17_0
        try clear hfz17_1
        try clear hfz17_2
        try clear hfz17_3
        try clear hfz20_0
        try clear hfz20_1
        try clear hfz20_2
        try clear hfz20_3
        try clear hfz25_0
        try clear hfz25_1
        try clear hfz25_2
        try clear hfz25_3
        try clear hx587_0
        try clear hx587_1
        try clear hx587_2
        try clear hx587_3
        try clear p2
        try clear p5
        try clear p587
        try clear p6
        try clear q5
        try clear q587
        obtain ⟨kq, x60_21, rfl, HA, HJ21, HO_5, HO_8, BK588, HB⟩ := hcut
        cases kq with
        | zero => exact absurd HA.out (by simp [hornbookref17_Parse.j3])
        | succ kj21 =>
         have H := HA.out
         clear HA
         simp only [hornbookref17_Parse.j3] at H
         by_cases c26 : x60_21 = true
         ·subst c26
          rw [if_pos rfl] at H
          refine iNc H ?_ ?_<;>clear H<;>intro H c27
          rotate_left
          ·exact absurd H (by simp)
          have LMc27 := aM c27
          clear c27
          obtain ⟨y592, hy592⟩ : ∃ y_ : List (S34), y_ = (x8_1 ++ [(⟨false, 0, ((rd_T65 t582 x10_1).f3)⟩ : S34)]) := ⟨_, rfl⟩
          replace H : (hornbookref17_Parse.l0 kj21 a0 t582 y592 x9_1 (wrap64 (x10_1 + 1))) = some (r1, r2, r3) := by first | (rw [hy592]; with_reducible exact H) | (have H2_ := (Option.bind_some _ _).symm.trans H; rw [hy592]; with_reducible exact H2_) | (have H2_ := (Option.bind_some _ _).symm.trans H; with_reducible exact H2_) | with_reducible exact H | (rw [hy592]; exact H) | exact H
          have Ny592 := aM hy592
          clear hy592
          have H' := aM H
          clear H
          have hcz28_0 : wc.cell? ⟨gb588, 0, none⟩ = some (.int .i64 ((rd_T65 t582 x10_1).f0)) := (blk_cell BK588.out 0).trans rfl
          have hcz28_1 : wc.cell? ⟨gb588, 1, none⟩ = some (.int .i64 ((rd_T65 t582 x10_1).f1)) := (blk_cell BK588.out 1).trans rfl
          have hcz28_2 : wc.cell? ⟨gb588, 2, none⟩ = some (.int .i64 ((rd_T65 t582 x10_1).f2)) := (blk_cell BK588.out 2).trans rfl
          have hcz28_3 : wc.cell? ⟨gb588, 3, none⟩ = some (.string ((rd_T65 t582 x10_1).f3)) := (blk_cell BK588.out 3).trans rfl
          have hfz28_0 := blk_frozen BK588.out 0
          have hfz28_1 := blk_frozen BK588.out 1
          have hfz28_2 := blk_frozen BK588.out 2
          have hfz28_3 := blk_frozen BK588.out 3
          go_wp2_with (first | ((with_reducible refine gate_builtin (b := .append) (xs := #[.tmp 72, .tmp 76]) rfl ?_); at_builtin; refine Kd.R_append k34 (w0 := w) w.heap.size rfl (.tmp 72) (.tmp 76) 22 34 (.agg #[(.bool false), (.int .i64 0), (.string ⟨#[]⟩)]) 32 rfl Tryz.underlying22 info34 rfl (by decide) (by omega) u8 x8_1 (⟨false, 0, ((rd_T65 t582 x10_1).f3)⟩ : S34) [.bool false, .int .i64 0, .string ((rd_T65 t582 x10_1).f3)] (fun _ => True) (fun _ => False) rfl rfl ?aP (fun _ hk => hk.elim) ?aF ?aO ?aB ?aS ?aL ?_; (case aP => exact k34_mkM _ _ _ (⟨false, 0, ((rd_T65 t582 x10_1).f3)⟩ : S34)); (case aB => exact bQ); (case aF => exact (fun _ _ => trivial)); (case aO => exact (mQ HO_8)); (case aS => exact (below_size bQ)); (case aL => have := LMc27.out; omega); intro v593 w29 ho hb hg hat; rw [← Ny592.out] at ho; have n0_ := aM (Kd.R_over' (mQ HO_5) (Kd.R_typed (mQ HO_8)) (by decide) hg); have n1_ := aM (blk_grown (g := gb588) (o := .cells #[.int .i64 ((rd_T65 t582 x10_1).f0), .int .i64 ((rd_T65 t582 x10_1).f1), .int .i64 ((rd_T65 t582 x10_1).f2), .string ((rd_T65 t582 x10_1).f3)] 65 (0, 0)) kQ hg (Kd.R_ne HO_8.out BK588.out (by decide))); have n2_ := aM hb; have n3_ := aM ho; clear HO_5; clear BK588; clear HB; clear HO_8; have HO_5 := n0_; have BK588 := n1_; have HB := n2_; have HO594 := n3_; clear n0_ n1_ n2_ n3_; clear ho hb hg hat))
          repeat (go_quiet (first | ((with_reducible refine gate_builtin (b := .append) (xs := #[.tmp 72, .tmp 76]) rfl ?_); at_builtin; refine Kd.R_append k34 (w0 := w) w.heap.size rfl (.tmp 72) (.tmp 76) 22 34 (.agg #[(.bool false), (.int .i64 0), (.string ⟨#[]⟩)]) 32 rfl Tryz.underlying22 info34 rfl (by decide) (by omega) u8 x8_1 (⟨false, 0, ((rd_T65 t582 x10_1).f3)⟩ : S34) [.bool false, .int .i64 0, .string ((rd_T65 t582 x10_1).f3)] (fun _ => True) (fun _ => False) rfl rfl ?aP (fun _ hk => hk.elim) ?aF ?aO ?aB ?aS ?aL ?_; (case aP => exact k34_mkM _ _ _ (⟨false, 0, ((rd_T65 t582 x10_1).f3)⟩ : S34)); (case aB => exact bQ); (case aF => exact (fun _ _ => trivial)); (case aO => exact (mQ HO_8)); (case aS => exact (below_size bQ)); (case aL => have := LMc27.out; omega); intro v593 w29 ho hb hg hat; rw [← Ny592.out] at ho; have n0_ := aM (Kd.R_over' (mQ HO_5) (Kd.R_typed (mQ HO_8)) (by decide) hg); have n1_ := aM (blk_grown (g := gb588) (o := .cells #[.int .i64 ((rd_T65 t582 x10_1).f0), .int .i64 ((rd_T65 t582 x10_1).f1), .int .i64 ((rd_T65 t582 x10_1).f2), .string ((rd_T65 t582 x10_1).f3)] 65 (0, 0)) kQ hg (Kd.R_ne HO_8.out BK588.out (by decide))); have n2_ := aM hb; have n3_ := aM ho; clear HO_5; clear BK588; clear HB; clear HO_8; have HO_5 := n0_; have BK588 := n1_; have HB := n2_; have HO594 := n3_; clear n0_ n1_ n2_ n3_; clear ho hb hg hat)); try go_wp2_with (first | ((with_reducible refine gate_builtin (b := .append) (xs := #[.tmp 72, .tmp 76]) rfl ?_); at_builtin; refine Kd.R_append k34 (w0 := w) w.heap.size rfl (.tmp 72) (.tmp 76) 22 34 (.agg #[(.bool false), (.int .i64 0), (.string ⟨#[]⟩)]) 32 rfl Tryz.underlying22 info34 rfl (by decide) (by omega) u8 x8_1 (⟨false, 0, ((rd_T65 t582 x10_1).f3)⟩ : S34) [.bool false, .int .i64 0, .string ((rd_T65 t582 x10_1).f3)] (fun _ => True) (fun _ => False) rfl rfl ?aP (fun _ hk => hk.elim) ?aF ?aO ?aB ?aS ?aL ?_; (case aP => exact k34_mkM _ _ _ (⟨false, 0, ((rd_T65 t582 x10_1).f3)⟩ : S34)); (case aB => exact bQ); (case aF => exact (fun _ _ => trivial)); (case aO => exact (mQ HO_8)); (case aS => exact (below_size bQ)); (case aL => have := LMc27.out; omega); intro v593 w29 ho hb hg hat; rw [← Ny592.out] at ho; have n0_ := aM (Kd.R_over' (mQ HO_5) (Kd.R_typed (mQ HO_8)) (by decide) hg); have n1_ := aM (blk_grown (g := gb588) (o := .cells #[.int .i64 ((rd_T65 t582 x10_1).f0), .int .i64 ((rd_T65 t582 x10_1).f1), .int .i64 ((rd_T65 t582 x10_1).f2), .string ((rd_T65 t582 x10_1).f3)] 65 (0, 0)) kQ hg (Kd.R_ne HO_8.out BK588.out (by decide))); have n2_ := aM hb; have n3_ := aM ho; clear HO_5; clear BK588; clear HB; clear HO_8; have HO_5 := n0_; have BK588 := n1_; have HB := n2_; have HO594 := n3_; clear n0_ n1_ n2_ n3_; clear ho hb hg hat)))
          go_roundg kj21
          case measure => have := HK1.out; have := HJ6.out; have := HJ13.out; have := HJ21.out; omega
          case rel => exact ⟨(y592), (x9_1), (wrap64 (x10_1 + 1)), vQ, vQ, H', ⟨by have := HK1.out; have := HJ6.out; have := HJ13.out; have := HJ21.out; omega⟩, ⟨by (with_reducible repeat first|apply rA|apply rD|apply r1); exact Kd.R_mono HO_5.out (fun _ hk => trivial)⟩, ⟨mQ HO594⟩, ⟨bQ⟩⟩
         replace c26 := Bool.eq_false_iff.mpr c26
         subst c26
         rw [if_neg (show ¬ (false = true) by decide)] at H
         refine iNc H ?_ ?_<;>clear H<;>intro H c30
         rotate_left
         ·have c30b0 : decide (0 < x10_1) = false := decide_eq_false c30
          clear c30
          simp only [Option.some.injEq, Prod.mk.injEq] at H
          obtain ⟨rfl, rfl, rfl⟩ := H
          have hcz36_0 : wc.cell? ⟨gb588, 0, none⟩ = some (.int .i64 ((rd_T65 t582 x10_1).f0)) := (blk_cell BK588.out 0).trans rfl
          have hcz36_1 : wc.cell? ⟨gb588, 1, none⟩ = some (.int .i64 ((rd_T65 t582 x10_1).f1)) := (blk_cell BK588.out 1).trans rfl
          have hcz36_2 : wc.cell? ⟨gb588, 2, none⟩ = some (.int .i64 ((rd_T65 t582 x10_1).f2)) := (blk_cell BK588.out 2).trans rfl
          have hcz36_3 : wc.cell? ⟨gb588, 3, none⟩ = some (.string ((rd_T65 t582 x10_1).f3)) := (blk_cell BK588.out 3).trans rfl
          have hfz36_0 := blk_frozen BK588.out 0
          have hfz36_1 := blk_frozen BK588.out 1
          have hfz36_2 := blk_frozen BK588.out 2
          have hfz36_3 := blk_frozen BK588.out 3
          go_wp2
          repeat (go_quiet (fail); try go_wp2)
          go_ret3
          exact ⟨_, eQ, by first | exact Kd.R_nil _ _ _ _ _ | exact Kd.N_nil _ _ _ _ _ | exact Kd.V_nil _ _ _ _ _ | exact Kd.Q_nil _ _ _ _ _ | exact Kd.S_nil _ _ _ _ _, bQ⟩
         have c30b0 : decide (0 < x10_1) = true := decide_eq_true c30
         clear c30
         by_cases c31 : x9_1 = true
         ·subst c31
          rw [if_pos rfl] at H
          simp only [Option.some.injEq, Prod.mk.injEq] at H
          obtain ⟨rfl, rfl, rfl⟩ := H
          have hcz32_0 : wc.cell? ⟨gb588, 0, none⟩ = some (.int .i64 ((rd_T65 t582 x10_1).f0)) := (blk_cell BK588.out 0).trans rfl
          have hcz32_1 : wc.cell? ⟨gb588, 1, none⟩ = some (.int .i64 ((rd_T65 t582 x10_1).f1)) := (blk_cell BK588.out 1).trans rfl
          have hcz32_2 : wc.cell? ⟨gb588, 2, none⟩ = some (.int .i64 ((rd_T65 t582 x10_1).f2)) := (blk_cell BK588.out 2).trans rfl
          have hcz32_3 : wc.cell? ⟨gb588, 3, none⟩ = some (.string ((rd_T65 t582 x10_1).f3)) := (blk_cell BK588.out 3).trans rfl
          have hfz32_0 := blk_frozen BK588.out 0
          have hfz32_1 := blk_frozen BK588.out 1
          have hfz32_2 := blk_frozen BK588.out 2
          have hfz32_3 := blk_frozen BK588.out 3
          go_wp2
          repeat (go_quiet (fail); try go_wp2)
          go_ret3
          exact ⟨_, eQ, by first | exact Kd.R_nil _ _ _ _ _ | exact Kd.N_nil _ _ _ _ _ | exact Kd.V_nil _ _ _ _ _ | exact Kd.Q_nil _ _ _ _ _ | exact Kd.S_nil _ _ _ _ _, bQ⟩
         replace c31 := Bool.eq_false_iff.mpr c31
         subst c31
         rw [if_neg (show ¬ (false = true) by decide)] at H
         refine iEc H ?_ ?_<;>clear H<;>intro H c33b0 c33b1 c33
         rotate_left
         ·simp only [Option.some.injEq, Prod.mk.injEq] at H
          obtain ⟨rfl, rfl, rfl⟩ := H
          have hcz35_0 : wc.cell? ⟨gb588, 0, none⟩ = some (.int .i64 ((rd_T65 t582 x10_1).f0)) := (blk_cell BK588.out 0).trans rfl
          have hcz35_1 : wc.cell? ⟨gb588, 1, none⟩ = some (.int .i64 ((rd_T65 t582 x10_1).f1)) := (blk_cell BK588.out 1).trans rfl
          have hcz35_2 : wc.cell? ⟨gb588, 2, none⟩ = some (.int .i64 ((rd_T65 t582 x10_1).f2)) := (blk_cell BK588.out 2).trans rfl
          have hcz35_3 : wc.cell? ⟨gb588, 3, none⟩ = some (.string ((rd_T65 t582 x10_1).f3)) := (blk_cell BK588.out 3).trans rfl
          have hfz35_0 := blk_frozen BK588.out 0
          have hfz35_1 := blk_frozen BK588.out 1
          have hfz35_2 := blk_frozen BK588.out 2
          have hfz35_3 := blk_frozen BK588.out 3
          go_wp2
          repeat (go_quiet (fail); try go_wp2)
          go_ret3
          exact ⟨_, eQ, by first | exact Kd.R_nil _ _ _ _ _ | exact Kd.N_nil _ _ _ _ _ | exact Kd.V_nil _ _ _ _ _ | exact Kd.Q_nil _ _ _ _ _ | exact Kd.S_nil _ _ _ _ _, bQ⟩
         clear c33
         have H' := aM H
         clear H
         have hcz34_0 : wc.cell? ⟨gb588, 0, none⟩ = some (.int .i64 ((rd_T65 t582 x10_1).f0)) := (blk_cell BK588.out 0).trans rfl
         have hcz34_1 : wc.cell? ⟨gb588, 1, none⟩ = some (.int .i64 ((rd_T65 t582 x10_1).f1)) := (blk_cell BK588.out 1).trans rfl
         have hcz34_2 : wc.cell? ⟨gb588, 2, none⟩ = some (.int .i64 ((rd_T65 t582 x10_1).f2)) := (blk_cell BK588.out 2).trans rfl
         have hcz34_3 : wc.cell? ⟨gb588, 3, none⟩ = some (.string ((rd_T65 t582 x10_1).f3)) := (blk_cell BK588.out 3).trans rfl
         have hfz34_0 := blk_frozen BK588.out 0
         have hfz34_1 := blk_frozen BK588.out 1
         have hfz34_2 := blk_frozen BK588.out 2
         have hfz34_3 := blk_frozen BK588.out 3
         go_wp2
         repeat (go_quiet (fail); try go_wp2)
         go_roundg kj21
         case measure => have := HK1.out; have := HJ6.out; have := HJ13.out; have := HJ21.out; omega
         case rel => exact ⟨(x8_1), (true), (wrap64 (x10_1 + 1)), vQ, vQ, H', ⟨by have := HK1.out; have := HJ6.out; have := HJ13.out; have := HJ21.out; omega⟩, ⟨by (with_reducible repeat first|apply rA|apply rD|apply r1); exact Kd.R_mono HO_5.out (fun _ hk => trivial)⟩, ⟨mQ HO_8⟩, ⟨bQ⟩⟩
end Go.Proofs.YtdcldaknmenklaaGreatDoor.M
end
section
namespace Go.Proofs.YtdcldaknmenklaaGreatDoor.M
open Go.RowKit Go.Proofs.YtdcldaknmenklaaGreatDoorW.PrintWords Go.Proofs.YtdcldaknmenklaaGreatDoorW.PrintLast Go.Proofs.YtdcldaknmenklaaGreatDoorW.PrintMore
attribute [local go_sem] max2_int min2_int max_two min_two max_three min_three max_four min_four
set_option linter.unusedVariables false
set_option linter.unusedSimpArgs false
def hornbookref17_Apply.l0 : Nat → List (S34) → List ByteArray → Int → Int → Option (List ByteArray × Int × Int)
 | 0, _, _, _, _ => none
 | k + 1, x1, x7, x8, x9 => if x9 < (x1.length : Int) then (if 0 ≤ x9 then (if (rd_T34 x1 x9).f0 = true then (if ((rd_T34 x1 x9).f1) < 0 then (some (([] : List ByteArray), x9, 7)) else (if ((rd_T34 x1 x9).f1) > 255 then (some (([] : List ByteArray), x9, 7)) else (hornbookref17_Apply.l0 k x1 x7 ((rd_T34 x1 x9).f1) (wrap64 (x9 + 1))))) else (if x8 < 0 then (some (([] : List ByteArray), x9, 3)) else (if x8 > 255 then (some (([] : List ByteArray), x9, 7)) else (if 0 ≤ x8 then (if x8 < (x7.length : Int) then (hornbookref17_Apply.l0 k x1 (x7.set (x8 : Int).toNat ((rd_T34 x1 x9).f2)) (wrap64 (x8 + 1)) (wrap64 (x9 + 1))) else (none)) else (none))))) else (none)) else (some (x7, 0, 0))
def hornbookref17_Apply.f (k : Nat) (l0 : List ByteArray) (l1 : List (S34)) : Option (List ByteArray × Int × Int) := if (l0.length : Int) = 256 then ((some (([] : List ByteArray) : List ByteArray)).bind fun y595 => (if y595.length + l0.length < 8796093022208 then (hornbookref17_Apply.l0 k l1 (y595 ++ l0) (-1) 0) else (none))) else (some (([] : List ByteArray), 0, 11))
set_option maxHeartbeats 8000000 in
set_option maxRecDepth 100000 in
theorem hornbookref17_Apply.calls (k : Nat) (A0 : Option Addr) (c0 : Nat) (l0 : List ByteArray) (A1 : Option Addr) (c1 : Nat) (l1 : List (S34)) (r1 : List ByteArray) (r2 : Int) (r3 : Int) (w : World) (hr0 : Kd.C Kd.string w A0 l0.length l0) (hc0 : l0.length ≤ c0) (hr1 : Kd.C k34 w A1 l1.length l1) (hc1 : l1.length ≤ c1) (h : hornbookref17_Apply.f k l0 l1 = some (r1, r2, r3)) :
  Calls Tryz.prog 17 #[.slice A0 l0.length c0, .slice A1 l1.length c1] w fun e w' => ∃ v0_ : Value, e = .returned (.tuple #[v0_, .int .i64 r2, .int .i64 r3]) ∧ Kd.R Kd.string 9 w' w.heap.size (fun _ => True) v0_ r1 ∧ Below w.heap.size w w' := by
 have HR0 := aM hr0
 have HC0 := aM hc0
 clear hr0 hc0
 have HR1 := aM hr1
 have HC1 := aM hc1
 clear hr1 hc1
 have HB := aM (Below.refl w.heap.size w)
 have H : (if (l0.length : Int) = 256 then ((some (([] : List ByteArray) : List ByteArray)).bind fun y595 => (if y595.length + l0.length < 8796093022208 then (hornbookref17_Apply.l0 k l1 (y595 ++ l0) (-1) 0) else (none))) else (some (([] : List ByteArray), 0, 11))) = some (r1, r2, r3) := h
 clear h
 refine iEc H ?_ ?_<;>clear H<;>intro H c3b0 c3b1 c3
 rotate_left
 ·simp only [Option.some.injEq, Prod.mk.injEq] at H
  obtain ⟨rfl, rfl, rfl⟩ := H
  go_enter Tryz.func17, Tryz.ntmps17
  go_wp2
  go_ret3
  exact ⟨_, eQ, by first | exact Kd.R_nil _ _ _ _ _ | exact Kd.N_nil _ _ _ _ _ | exact Kd.V_nil _ _ _ _ _ | exact Kd.Q_nil _ _ _ _ _ | exact Kd.S_nil _ _ _ _ _, bQ⟩
 clear c3
 obtain ⟨y595, hy595⟩ : ∃ y_ : List ByteArray, y_ = (([] : List ByteArray)) := ⟨_, rfl⟩
 replace H : (if y595.length + l0.length < 8796093022208 then (hornbookref17_Apply.l0 k l1 (y595 ++ l0) (-1) 0) else (none)) = some (r1, r2, r3) := by first | (rw [hy595]; with_reducible exact H) | (have H2_ := (Option.bind_some _ _).symm.trans H; rw [hy595]; with_reducible exact H2_) | (have H2_ := (Option.bind_some _ _).symm.trans H; with_reducible exact H2_) | with_reducible exact H | (rw [hy595]; exact H) | exact H
 have Ny595 := aM hy595
 clear hy595
 refine iNc H ?_ ?_<;>clear H<;>intro H c4
 rotate_left
 ·exact absurd H (by simp)
 have LMc4 := aM c4
 clear c4
 obtain ⟨y598, hy598⟩ : ∃ y_ : List ByteArray, y_ = (y595 ++ l0) := ⟨_, rfl⟩
 replace H : (hornbookref17_Apply.l0 k l1 y598 (-1) 0) = some (r1, r2, r3) := by first | (rw [hy598]; with_reducible exact H) | (have H2_ := (Option.bind_some _ _).symm.trans H; rw [hy598]; with_reducible exact H2_) | (have H2_ := (Option.bind_some _ _).symm.trans H; with_reducible exact H2_) | with_reducible exact H | (rw [hy598]; exact H) | exact H
 have Ny598 := aM hy598
 clear hy598
 have H' := aM H
 clear H
 go_enter Tryz.func17, Tryz.ntmps17
 go_wp2_with (first | ((with_reducible refine gD 13 ?_); refine Kd.R_lit Kd.string _ 9 ?hg (N := 13) ?hd (xs := ([] : List ByteArray)) (inner := []) (ok := fun _ => True) (okp := fun _ => True) ?hr ?hp (fun _ hk => hk) trivial (Below.refl _ _) (Nat.le_refl _) (by simp) ?_; (case hd => rfl); (case hg => rfl); (case hr => first | (go_simp; done) | (go_simp; rfl)); (case hp => exact (Reps.none _ _)); intro v596 w5 ho6 hb hg_ hnew_; clear hg_ hnew_; (first | rw [← Ny595.out] at ho6 | (simp only [Int.reduceToNat] at ho6; rw [← Ny595.out] at ho6)); have HO597 := lK ho6; replace HB := sB hb; clear hb ho6) | ((with_reducible refine gate_builtin (b := .append) (xs := #[.tmp 13, .tmp 14]) rfl ?_); at_builtin; refine Kd.R_append_rows Kd.string (w0 := w) w.heap.size rfl (.tmp 13) (.tmp 14) 25 9 (.string ⟨#[]⟩) 16 rfl Tryz.underlying25 info9 rfl (by decide) (by omega) v596 y595 l0 _ _ _ (fun _ => True) (fun _ => False) rfl rfl ?aO ?aR (fun _ _ h => h) (fun _ h => h.elim) ?aF ?aB ?aS ?aL ?_; (case aR => repeat (first | exact (Kd.C_below HR0.out HB.out) | (with_reducible first|refine Kd.C_alloc ?_ _|refine Kd.C_drewN ?_ _|refine Kd.C_drew ?_))); (case aB => exact bQ); (case aF => exact (fun _ _ => trivial)); (case aO => exact (mQ HO597)); (case aS => exact (below_size bQ)); (case aL => have := LMc4.out; omega); intro v599 w7 ho hb hg hat; rw [← Ny598.out] at ho; have n0_ := aM hb; have n1_ := aM ho; clear HB; clear HO597; have HB := n0_; have HO600 := n1_; clear n0_ n1_; clear ho hb hg hat))
 go_loopg [8, 9] k (fun kq v8 v9 w' => ∃ (x7_1 : List ByteArray) (x8_1 : Int) (x9_1 : Int), v8 = .int .i64 x8_1 ∧ v9 = .int .i64 x9_1 ∧ Aside0 (hornbookref17_Apply.l0 kq l1 x7_1 x8_1 x9_1 = some (r1, r2, r3)) ∧ Aside0 (kq ≤ k) ∧ Aside0 (Kd.R Kd.string 9 w' w.heap.size (fun _ => True) v599 x7_1) ∧ Aside0 (Below w.heap.size w w'))
 case atStart => exact ⟨(y598), ((-1)), (0), vQ, vQ, H', ⟨Nat.le_refl _⟩, ⟨mQ HO600⟩, ⟨bQ⟩⟩
 case round =>
  clear H'
  try clear c1
  try clear p2
  try clear c3
  try clear c3b0
  try clear c3b1
  try clear c4
  obtain ⟨x7_1, x8_1, x9_1, rfl, rfl, HA, HK1, HO_7, HB⟩ := hrel
  cases gk with
  | zero => exact absurd HA.out (by simp [hornbookref17_Apply.l0])
  | succ k1 =>
   have H := HA.out
   clear HA
   simp only [hornbookref17_Apply.l0] at H
   refine iD H ?_ ?_<;>clear H<;>intro H c8b0
   rotate_left
   ·simp only [Option.some.injEq, Prod.mk.injEq] at H
    obtain ⟨rfl, rfl, rfl⟩ := H
    go_wp2
    go_ret3
    exact ⟨_, eQ, mQ HO_7, bQ⟩
   refine iD H ?_ ?_<;>clear H<;>intro H c9b0
   rotate_left
   ·exact absurd H (by simp)
   obtain ⟨bq10, hbq10⟩ : ∃ b_ : Bool, b_ = ((rd_T34 l1 x9_1).f0) := ⟨_, rfl⟩
   replace H : (if bq10 = true then (if ((rd_T34 l1 x9_1).f1) < 0 then (some (([] : List ByteArray), x9_1, 7)) else (if ((rd_T34 l1 x9_1).f1) > 255 then (some (([] : List ByteArray), x9_1, 7)) else (hornbookref17_Apply.l0 k1 l1 x7_1 ((rd_T34 l1 x9_1).f1) (wrap64 (x9_1 + 1))))) else (if x8_1 < 0 then (some (([] : List ByteArray), x9_1, 3)) else (if x8_1 > 255 then (some (([] : List ByteArray), x9_1, 7)) else (if 0 ≤ x8_1 then (if x8_1 < (x7_1.length : Int) then (hornbookref17_Apply.l0 k1 l1 (x7_1.set (x8_1 : Int).toNat ((rd_T34 l1 x9_1).f2)) (wrap64 (x8_1 + 1)) (wrap64 (x9_1 + 1))) else (none)) else (none))))) = some (r1, r2, r3) := by rw [← hbq10] at H; exact H
   have Nbq10 := aM hbq10
   clear hbq10
   by_cases c11 : bq10 = true
   rotate_left
   ·replace c11 := Bool.eq_false_iff.mpr c11
    subst c11
    rw [if_neg (show ¬ (false = true) by decide)] at H
    refine iD H ?_ ?_<;>clear H<;>intro H c14b0
    ·simp only [Option.some.injEq, Prod.mk.injEq] at H
     obtain ⟨rfl, rfl, rfl⟩ := H
     have p601 : 0 ≤ (x9_1 : Int) := of_decide_eq_true hQ
     have q601 : x9_1 < (l1.length : Int) := of_decide_eq_true hQ
     obtain ⟨ad601, e601, hx601_0, hx601_1, hx601_2⟩ := at_T34 HR1.out x9_1 p601 q601
     (try rw [← Nbq10.out] at hx601_0)
     cases e601
     replace hx601_0 := (HB.out.cell (World.block_lt_of_cell? w _ hx601_0)).trans hx601_0
     replace hx601_1 := (HB.out.cell (World.block_lt_of_cell? w _ hx601_1)).trans hx601_1
     replace hx601_2 := (HB.out.cell (World.block_lt_of_cell? w _ hx601_2)).trans hx601_2
     replace p601 := eq_true p601
     replace q601 := eq_true q601
     go_wp2
     go_ret3
     exact ⟨_, eQ, by first | exact Kd.R_nil _ _ _ _ _ | exact Kd.N_nil _ _ _ _ _ | exact Kd.V_nil _ _ _ _ _ | exact Kd.Q_nil _ _ _ _ _ | exact Kd.S_nil _ _ _ _ _, bQ⟩
    refine iNc H ?_ ?_<;>clear H<;>intro H c15
    ·have c15b0 : decide (255 < x8_1) = true := decide_eq_true c15
     clear c15
     simp only [Option.some.injEq, Prod.mk.injEq] at H
     obtain ⟨rfl, rfl, rfl⟩ := H
     have p601 : 0 ≤ (x9_1 : Int) := of_decide_eq_true hQ
     have q601 : x9_1 < (l1.length : Int) := of_decide_eq_true hQ
     obtain ⟨ad601, e601, hx601_0, hx601_1, hx601_2⟩ := at_T34 HR1.out x9_1 p601 q601
     (try rw [← Nbq10.out] at hx601_0)
     cases e601
     replace hx601_0 := (HB.out.cell (World.block_lt_of_cell? w _ hx601_0)).trans hx601_0
     replace hx601_1 := (HB.out.cell (World.block_lt_of_cell? w _ hx601_1)).trans hx601_1
     replace hx601_2 := (HB.out.cell (World.block_lt_of_cell? w _ hx601_2)).trans hx601_2
     replace p601 := eq_true p601
     replace q601 := eq_true q601
     go_wp2
     go_ret3
     exact ⟨_, eQ, by first | exact Kd.R_nil _ _ _ _ _ | exact Kd.N_nil _ _ _ _ _ | exact Kd.V_nil _ _ _ _ _ | exact Kd.Q_nil _ _ _ _ _ | exact Kd.S_nil _ _ _ _ _, bQ⟩
    have c15b0 : decide (255 < x8_1) = false := decide_eq_false c15
    clear c15
    refine iD H ?_ ?_<;>clear H<;>intro H c16b0
    rotate_left
    ·exact absurd H (by simp)
    refine iD H ?_ ?_<;>clear H<;>intro H c17b0
    rotate_left
    ·exact absurd H (by simp)
    obtain ⟨y606, hy606⟩ : ∃ y_ : List ByteArray, y_ = (x7_1.set (x8_1 : Int).toNat ((rd_T34 l1 x9_1).f2)) := ⟨_, rfl⟩
    replace H : (hornbookref17_Apply.l0 k1 l1 y606 (wrap64 (x8_1 + 1)) (wrap64 (x9_1 + 1))) = some (r1, r2, r3) := by first | (rw [hy606]; with_reducible exact H) | (have H2_ := (Option.bind_some _ _).symm.trans H; rw [hy606]; with_reducible exact H2_) | (have H2_ := (Option.bind_some _ _).symm.trans H; with_reducible exact H2_) | with_reducible exact H | (rw [hy606]; exact H) | exact H
    have Ny606 := aM hy606
    clear hy606
    have H' := aM H
    clear H
    have p601 : 0 ≤ (x9_1 : Int) := of_decide_eq_true hQ
    have q601 : x9_1 < (l1.length : Int) := of_decide_eq_true hQ
    obtain ⟨ad601, e601, hx601_0, hx601_1, hx601_2⟩ := at_T34 HR1.out x9_1 p601 q601
    (try rw [← Nbq10.out] at hx601_0)
    cases e601
    replace hx601_0 := (HB.out.cell (World.block_lt_of_cell? w _ hx601_0)).trans hx601_0
    replace hx601_1 := (HB.out.cell (World.block_lt_of_cell? w _ hx601_1)).trans hx601_1
    replace hx601_2 := (HB.out.cell (World.block_lt_of_cell? w _ hx601_2)).trans hx601_2
    replace p601 := eq_true p601
    replace q601 := eq_true q601
    have p605 : 0 ≤ (x9_1 : Int) := of_decide_eq_true hQ
    have q605 : x9_1 < (l1.length : Int) := of_decide_eq_true hQ
    obtain ⟨ad605, e605, hx605_0, hx605_1, hx605_2⟩ := at_T34 HR1.out x9_1 p605 q605
    (try rw [← Nbq10.out] at hx605_0)
    obtain rfl : ad601 = ad605 := (by injection e605)
    replace hx605_0 := (HB.out.cell (World.block_lt_of_cell? w _ hx605_0)).trans hx605_0
    replace hx605_1 := (HB.out.cell (World.block_lt_of_cell? w _ hx605_1)).trans hx605_1
    replace hx605_2 := (HB.out.cell (World.block_lt_of_cell? w _ hx605_2)).trans hx605_2
    replace p605 := eq_true p605
    replace q605 := eq_true q605
    have p18 : 0 ≤ (x8_1 : Int) := of_decide_eq_true hQ
    have q18 : (x8_1 : Int) < ((x7_1.length : Int) : Int) := of_decide_eq_true hQ
    obtain ⟨go18, co18, eo18, gb18, gl18, cl18, HG18⟩ := Kd.R_form HO_7.out (by omega)
    (first | cases eo18 | (injection eo18 with ea_ en_ ec_; (first | subst ea_ | (injection ea_ with ea_; subst ea_)); subst ec_; clear en_))
    have GB18 := aM gb18
    have GG18 := aM HG18
    clear gb18 gl18 HG18
    obtain ⟨hx18_0, hf18_0⟩ := Kd.R_celln (⟨#[]⟩ : ByteArray) HO_7.out (x8_1 : Int) p18 q18
    replace p18 := eq_true p18
    replace q18 := eq_true q18
    have HP19 := Kd.R_putg HO_7.out (x8_1 : Int) ((rd_T34 l1 x9_1).f2)
    go_wp2_with (first | ((with_reducible refine gate_store (t := 9) (p := 60) rfl ?_); refine store_event (t := 9) (p := 60) (v := ?vo_w20) (w1 := (wr.setCell ⟨go18, (x8_1 : Int).toNat, none⟩ (.string ((rd_T34 l1 x9_1).f2)))) ?hg ?ho ?hn ?hr ?_; (case ho => rfl); (case hg => rfl); (case hn => rfl); (case hr => first | (go_simp; done) | (go_simp; rfl)); intro w20 hw; have hg : wr.grownBy w20 (some go18) := (by rw [hw]; exact HP19.2); have hp_ : Kd.R Kd.string 9 w20 w.heap.size (fun _ => True) (.slice (some ⟨go18, 0, none⟩) x7_1.length co18) y606 := (by rw [hw, Ny606.out]; exact HP19.1); clear HP19; replace HO_7 := aM (hp_); replace HB := aM ((by rw [hw]; exact below_set (HB.out) GB18.out : Below w.heap.size w w20)); clear hg hw hp_))
    go_roundg k1
    case measure => have := HK1.out; omega
    case rel => exact ⟨(y606), (wrap64 (x8_1 + 1)), (wrap64 (x9_1 + 1)), vQ, vQ, H', ⟨by have := HK1.out; omega⟩, ⟨mQ HO_7⟩, ⟨bQ⟩⟩
   subst c11
   rw [if_pos rfl] at H
   refine iD H ?_ ?_<;>clear H<;>intro H c12b0
   ·simp only [Option.some.injEq, Prod.mk.injEq] at H
    obtain ⟨rfl, rfl, rfl⟩ := H
    have p601 : 0 ≤ (x9_1 : Int) := of_decide_eq_true hQ
    have q601 : x9_1 < (l1.length : Int) := of_decide_eq_true hQ
    obtain ⟨ad601, e601, hx601_0, hx601_1, hx601_2⟩ := at_T34 HR1.out x9_1 p601 q601
    (try rw [← Nbq10.out] at hx601_0)
    cases e601
    replace hx601_0 := (HB.out.cell (World.block_lt_of_cell? w _ hx601_0)).trans hx601_0
    replace hx601_1 := (HB.out.cell (World.block_lt_of_cell? w _ hx601_1)).trans hx601_1
    replace hx601_2 := (HB.out.cell (World.block_lt_of_cell? w _ hx601_2)).trans hx601_2
    replace p601 := eq_true p601
    replace q601 := eq_true q601
    have p602 : 0 ≤ (x9_1 : Int) := of_decide_eq_true hQ
    have q602 : x9_1 < (l1.length : Int) := of_decide_eq_true hQ
    obtain ⟨ad602, e602, hx602_0, hx602_1, hx602_2⟩ := at_T34 HR1.out x9_1 p602 q602
    (try rw [← Nbq10.out] at hx602_0)
    obtain rfl : ad601 = ad602 := (by injection e602)
    replace hx602_0 := (HB.out.cell (World.block_lt_of_cell? w _ hx602_0)).trans hx602_0
    replace hx602_1 := (HB.out.cell (World.block_lt_of_cell? w _ hx602_1)).trans hx602_1
    replace hx602_2 := (HB.out.cell (World.block_lt_of_cell? w _ hx602_2)).trans hx602_2
    replace p602 := eq_true p602
    replace q602 := eq_true q602
    go_wp2
    go_ret3
    exact ⟨_, eQ, by first | exact Kd.R_nil _ _ _ _ _ | exact Kd.N_nil _ _ _ _ _ | exact Kd.V_nil _ _ _ _ _ | exact Kd.Q_nil _ _ _ _ _ | exact Kd.S_nil _ _ _ _ _, bQ⟩
   refine iNc H ?_ ?_<;>clear H<;>intro H c13
   ·have c13b0 : decide (255 < ((rd_T34 l1 x9_1).f1)) = true := decide_eq_true c13
    clear c13
    simp only [Option.some.injEq, Prod.mk.injEq] at H
    obtain ⟨rfl, rfl, rfl⟩ := H
    have p601 : 0 ≤ (x9_1 : Int) := of_decide_eq_true hQ
    have q601 : x9_1 < (l1.length : Int) := of_decide_eq_true hQ
    obtain ⟨ad601, e601, hx601_0, hx601_1, hx601_2⟩ := at_T34 HR1.out x9_1 p601 q601
    (try rw [← Nbq10.out] at hx601_0)
    cases e601
    replace hx601_0 := (HB.out.cell (World.block_lt_of_cell? w _ hx601_0)).trans hx601_0
    replace hx601_1 := (HB.out.cell (World.block_lt_of_cell? w _ hx601_1)).trans hx601_1
    replace hx601_2 := (HB.out.cell (World.block_lt_of_cell? w _ hx601_2)).trans hx601_2
    replace p601 := eq_true p601
    replace q601 := eq_true q601
    have p602 : 0 ≤ (x9_1 : Int) := of_decide_eq_true hQ
    have q602 : x9_1 < (l1.length : Int) := of_decide_eq_true hQ
    obtain ⟨ad602, e602, hx602_0, hx602_1, hx602_2⟩ := at_T34 HR1.out x9_1 p602 q602
    (try rw [← Nbq10.out] at hx602_0)
    obtain rfl : ad601 = ad602 := (by injection e602)
    replace hx602_0 := (HB.out.cell (World.block_lt_of_cell? w _ hx602_0)).trans hx602_0
    replace hx602_1 := (HB.out.cell (World.block_lt_of_cell? w _ hx602_1)).trans hx602_1
    replace hx602_2 := (HB.out.cell (World.block_lt_of_cell? w _ hx602_2)).trans hx602_2
    replace p602 := eq_true p602
    replace q602 := eq_true q602
    have p603 : 0 ≤ (x9_1 : Int) := of_decide_eq_true hQ
    have q603 : x9_1 < (l1.length : Int) := of_decide_eq_true hQ
    obtain ⟨ad603, e603, hx603_0, hx603_1, hx603_2⟩ := at_T34 HR1.out x9_1 p603 q603
    (try rw [← Nbq10.out] at hx603_0)
    obtain rfl : ad601 = ad603 := (by injection e603)
    replace hx603_0 := (HB.out.cell (World.block_lt_of_cell? w _ hx603_0)).trans hx603_0
    replace hx603_1 := (HB.out.cell (World.block_lt_of_cell? w _ hx603_1)).trans hx603_1
    replace hx603_2 := (HB.out.cell (World.block_lt_of_cell? w _ hx603_2)).trans hx603_2
    replace p603 := eq_true p603
    replace q603 := eq_true q603
    go_wp2
    go_ret3
    exact ⟨_, eQ, by first | exact Kd.R_nil _ _ _ _ _ | exact Kd.N_nil _ _ _ _ _ | exact Kd.V_nil _ _ _ _ _ | exact Kd.Q_nil _ _ _ _ _ | exact Kd.S_nil _ _ _ _ _, bQ⟩
   have c13b0 : decide (255 < ((rd_T34 l1 x9_1).f1)) = false := decide_eq_false c13
   clear c13
   have H' := aM H
   clear H
   have p601 : 0 ≤ (x9_1 : Int) := of_decide_eq_true hQ
   have q601 : x9_1 < (l1.length : Int) := of_decide_eq_true hQ
   obtain ⟨ad601, e601, hx601_0, hx601_1, hx601_2⟩ := at_T34 HR1.out x9_1 p601 q601
   (try rw [← Nbq10.out] at hx601_0)
   cases e601
   replace hx601_0 := (HB.out.cell (World.block_lt_of_cell? w _ hx601_0)).trans hx601_0
   replace hx601_1 := (HB.out.cell (World.block_lt_of_cell? w _ hx601_1)).trans hx601_1
   replace hx601_2 := (HB.out.cell (World.block_lt_of_cell? w _ hx601_2)).trans hx601_2
   replace p601 := eq_true p601
   replace q601 := eq_true q601
   have p602 : 0 ≤ (x9_1 : Int) := of_decide_eq_true hQ
   have q602 : x9_1 < (l1.length : Int) := of_decide_eq_true hQ
   obtain ⟨ad602, e602, hx602_0, hx602_1, hx602_2⟩ := at_T34 HR1.out x9_1 p602 q602
   (try rw [← Nbq10.out] at hx602_0)
   obtain rfl : ad601 = ad602 := (by injection e602)
   replace hx602_0 := (HB.out.cell (World.block_lt_of_cell? w _ hx602_0)).trans hx602_0
   replace hx602_1 := (HB.out.cell (World.block_lt_of_cell? w _ hx602_1)).trans hx602_1
   replace hx602_2 := (HB.out.cell (World.block_lt_of_cell? w _ hx602_2)).trans hx602_2
   replace p602 := eq_true p602
   replace q602 := eq_true q602
   have p603 : 0 ≤ (x9_1 : Int) := of_decide_eq_true hQ
   have q603 : x9_1 < (l1.length : Int) := of_decide_eq_true hQ
   obtain ⟨ad603, e603, hx603_0, hx603_1, hx603_2⟩ := at_T34 HR1.out x9_1 p603 q603
   (try rw [← Nbq10.out] at hx603_0)
   obtain rfl : ad601 = ad603 := (by injection e603)
   replace hx603_0 := (HB.out.cell (World.block_lt_of_cell? w _ hx603_0)).trans hx603_0
   replace hx603_1 := (HB.out.cell (World.block_lt_of_cell? w _ hx603_1)).trans hx603_1
   replace hx603_2 := (HB.out.cell (World.block_lt_of_cell? w _ hx603_2)).trans hx603_2
   replace p603 := eq_true p603
   replace q603 := eq_true q603
   have p604 : 0 ≤ (x9_1 : Int) := of_decide_eq_true hQ
   have q604 : x9_1 < (l1.length : Int) := of_decide_eq_true hQ
   obtain ⟨ad604, e604, hx604_0, hx604_1, hx604_2⟩ := at_T34 HR1.out x9_1 p604 q604
   (try rw [← Nbq10.out] at hx604_0)
   obtain rfl : ad601 = ad604 := (by injection e604)
   replace hx604_0 := (HB.out.cell (World.block_lt_of_cell? w _ hx604_0)).trans hx604_0
   replace hx604_1 := (HB.out.cell (World.block_lt_of_cell? w _ hx604_1)).trans hx604_1
   replace hx604_2 := (HB.out.cell (World.block_lt_of_cell? w _ hx604_2)).trans hx604_2
   replace p604 := eq_true p604
   replace q604 := eq_true q604
   go_wp2
   go_roundg k1
   case measure => have := HK1.out; omega
   case rel => exact ⟨(x7_1), ((rd_T34 l1 x9_1).f1), (wrap64 (x9_1 + 1)), vQ, vQ, H', ⟨by have := HK1.out; omega⟩, ⟨mQ HO_7⟩, ⟨bQ⟩⟩
def hornbookref15_Sane.f (a0 : Int) : Option (Bool) := if a0 ≥ 0 then (some (decide (a0 ≤ 3))) else (some false)
set_option maxHeartbeats 8000000 in
set_option maxRecDepth 100000 in
theorem hornbookref15_Sane.calls (a0 : Int) (r : Bool) (w : World) (h : hornbookref15_Sane.f a0 = some r) :
  Calls Tryz.prog 32 #[.int .i64 a0] w fun e w' => e = .returned (.bool r) ∧ Drawn0 w w' := by
 have H : (if a0 ≥ 0 then (some (decide (a0 ≤ 3))) else (some false)) = some r := h
 clear h
 refine iNc H ?_ ?_<;>clear H<;>intro H c2
 ·have c2b0 : decide (0 ≤ a0) = true := decide_eq_true c2
  clear c2
  obtain rfl := Option.some.inj H
  go_enter Tryz.func32, Tryz.ntmps32
  go_wp2
  go_ret
  exact ⟨by first | rfl | (simp; done) | (simp [*]; done), by repeat (first | exact Drawn0.refl _ | apply Drawn0.step)⟩
 have c2b0 : decide (0 ≤ a0) = false := decide_eq_false c2
 clear c2
 obtain rfl := Option.some.inj H
 go_enter Tryz.func32, Tryz.ntmps32
 go_wp2
 go_ret
 exact ⟨by first | rfl | (simp; done) | (simp [*]; done), by repeat (first | exact Drawn0.refl _ | apply Drawn0.step)⟩
def hornbookref15_standard.f  : Option (ByteArray) := some (⟨#[115, 112, 97, 99, 101, 32, 101, 120, 99, 108, 97, 109, 32, 113, 117, 111, 116, 101, 100, 98, 108, 32, 110, 117, 109, 98, 101, 114, 115, 105, 103, 110, 32, 100, 111, 108, 108, 97, 114, 32, 112, 101, 114, 99, 101, 110, 116, 32, 97, 109, 112, 101, 114, 115, 97, 110, 100, 32, 113, 117, 111, 116, 101, 114, 105, 103, 104, 116, 32, 112, 97, 114, 101, 110, 108, 101, 102, 116, 32, 112, 97, 114, 101, 110, 114, 105, 103, 104, 116, 32, 97, 115, 116, 101, 114, 105, 115, 107, 32, 112, 108, 117, 115, 32, 99, 111, 109, 109, 97, 32, 104, 121, 112, 104, 101, 110, 32, 112, 101, 114, 105, 111, 100, 32, 115, 108, 97, 115, 104, 32, 122, 101, 114, 111, 32, 111, 110, 101, 32, 116, 119, 111, 32, 116, 104, 114, 101, 101, 32, 102, 111, 117, 114, 32, 102, 105, 118, 101, 32, 115, 105, 120, 32, 115, 101, 118, 101, 110, 32, 101, 105, 103, 104, 116, 32, 110, 105, 110, 101, 32, 99, 111, 108, 111, 110, 32, 115, 101, 109, 105, 99, 111, 108, 111, 110, 32, 108, 101, 115, 115, 32, 101, 113, 117, 97, 108, 32, 103, 114, 101, 97, 116, 101, 114, 32, 113, 117, 101, 115, 116, 105, 111, 110, 32, 97, 116, 32, 65, 32, 66, 32, 67, 32, 68, 32, 69, 32, 70, 32, 71, 32, 72, 32, 73, 32, 74, 32, 75, 32, 76, 32, 77, 32, 78, 32, 79, 32, 80, 32, 81, 32, 82, 32, 83, 32, 84, 32, 85, 32, 86, 32, 87, 32, 88, 32, 89, 32, 90, 32, 98, 114, 97, 99, 107, 101, 116, 108, 101, 102, 116, 32, 98, 97, 99, 107, 115, 108, 97, 115, 104, 32, 98, 114, 97, 99, 107, 101, 116, 114, 105, 103, 104, 116, 32, 97, 115, 99, 105, 105, 99, 105, 114, 99, 117, 109, 32, 117, 110, 100, 101, 114, 115, 99, 111, 114, 101, 32, 113, 117, 111, 116, 101, 108, 101, 102, 116, 32, 97, 32, 98, 32, 99, 32, 100, 32, 101, 32, 102, 32, 103, 32, 104, 32, 105, 32, 106, 32, 107, 32, 108, 32, 109, 32, 110, 32, 111, 32, 112, 32, 113, 32, 114, 32, 115, 32, 116, 32, 117, 32, 118, 32, 119, 32, 120, 32, 121, 32, 122, 32, 98, 114, 97, 99, 101, 108, 101, 102, 116, 32, 98, 97, 114, 32, 98, 114, 97, 99, 101, 114, 105, 103, 104, 116, 32, 97, 115, 99, 105, 105, 116, 105, 108, 100, 101, 32, 45, 32, 45, 32, 45, 32, 45, 32, 45, 32, 45, 32, 45, 32, 45, 32, 45, 32, 45, 32, 45, 32, 45, 32, 45, 32, 45, 32, 45, 32, 45, 32, 45, 32, 45, 32, 45, 32, 45, 32, 45, 32, 45, 32, 45, 32, 45, 32, 45, 32, 45, 32, 45, 32, 45, 32, 45, 32, 45, 32, 45, 32, 45, 32, 45, 32, 45, 32, 101, 120, 99, 108, 97, 109, 100, 111, 119, 110, 32, 99, 101, 110, 116, 32, 115, 116, 101, 114, 108, 105, 110, 103, 32, 102, 114, 97, 99, 116, 105, 111, 110, 32, 121, 101, 110, 32, 102, 108, 111, 114, 105, 110, 32, 115, 101, 99, 116, 105, 111, 110, 32, 99, 117, 114, 114, 101, 110, 99, 121, 32, 113, 117, 111, 116, 101, 115, 105, 110, 103, 108, 101, 32, 113, 117, 111, 116, 101, 100, 98, 108, 108, 101, 102, 116, 32, 103, 117, 105, 108, 108, 101, 109, 111, 116, 108, 101, 102, 116, 32, 103, 117, 105, 108, 115, 105, 110, 103, 108, 108, 101, 102, 116, 32, 103, 117, 105, 108, 115, 105, 110, 103, 108, 114, 105, 103, 104, 116, 32, 102, 105, 32, 102, 108, 32, 45, 32, 101, 110, 100, 97, 115, 104, 32, 100, 97, 103, 103, 101, 114, 32, 100, 97, 103, 103, 101, 114, 100, 98, 108, 32, 112, 101, 114, 105, 111, 100, 99, 101, 110, 116, 101, 114, 101, 100, 32, 45, 32, 112, 97, 114, 97, 103, 114, 97, 112, 104, 32, 98, 117, 108, 108, 101, 116, 32, 113, 117, 111, 116, 101, 115, 105, 110, 103, 108, 98, 97, 115, 101, 32, 113, 117, 111, 116, 101, 100, 98, 108, 98, 97, 115, 101, 32, 113, 117, 111, 116, 101, 100, 98, 108, 114, 105, 103, 104, 116, 32, 103, 117, 105, 108, 108, 101, 109, 111, 116, 114, 105, 103, 104, 116, 32, 101, 108, 108, 105, 112, 115, 105, 115, 32, 112, 101, 114, 116, 104, 111, 117, 115, 97, 110, 100, 32, 45, 32, 113, 117, 101, 115, 116, 105, 111, 110, 100, 111, 119, 110, 32, 45, 32, 103, 114, 97, 118, 101, 32, 97, 99, 117, 116, 101, 32, 99, 105, 114, 99, 117, 109, 102, 108, 101, 120, 32, 116, 105, 108, 100, 101, 32, 109, 97, 99, 114, 111, 110, 32, 98, 114, 101, 118, 101, 32, 100, 111, 116, 97, 99, 99, 101, 110, 116, 32, 100, 105, 101, 114, 101, 115, 105, 115, 32, 45, 32, 114, 105, 110, 103, 32, 99, 101, 100, 105, 108, 108, 97, 32, 45, 32, 104, 117, 110, 103, 97, 114, 117, 109, 108, 97, 117, 116, 32, 111, 103, 111, 110, 101, 107, 32, 99, 97, 114, 111, 110, 32, 101, 109, 100, 97, 115, 104, 32, 45, 32, 45, 32, 45, 32, 45, 32, 45, 32, 45, 32, 45, 32, 45, 32, 45, 32, 45, 32, 45, 32, 45, 32, 45, 32, 45, 32, 45, 32, 45, 32, 65, 69, 32, 45, 32, 111, 114, 100, 102, 101, 109, 105, 110, 105, 110, 101, 32, 45, 32, 45, 32, 45, 32, 45, 32, 76, 115, 108, 97, 115, 104, 32, 79, 115, 108, 97, 115, 104, 32, 79, 69, 32, 111, 114, 100, 109, 97, 115, 99, 117, 108, 105, 110, 101, 32, 45, 32, 45, 32, 45, 32, 45, 32, 45, 32, 97, 101, 32, 45, 32, 45, 32, 45, 32, 100, 111, 116, 108, 101, 115, 115, 105, 32, 45, 32, 45, 32, 108, 115, 108, 97, 115, 104, 32, 111, 115, 108, 97, 115, 104, 32, 111, 101, 32, 103, 101, 114, 109, 97, 110, 100, 98, 108, 115, 32, 45, 32, 45, 32, 45, 32, 45, 32]⟩ : ByteArray)
set_option maxHeartbeats 8000000 in
set_option maxRecDepth 100000 in
theorem hornbookref15_standard.calls  (r : ByteArray) (w : World) (h : hornbookref15_standard.f  = some r) :
  Calls Tryz.prog 65 #[] w fun e w' => e = .returned (.string r) ∧ Drawn0 w w' := by
 have H : (some (⟨#[115, 112, 97, 99, 101, 32, 101, 120, 99, 108, 97, 109, 32, 113, 117, 111, 116, 101, 100, 98, 108, 32, 110, 117, 109, 98, 101, 114, 115, 105, 103, 110, 32, 100, 111, 108, 108, 97, 114, 32, 112, 101, 114, 99, 101, 110, 116, 32, 97, 109, 112, 101, 114, 115, 97, 110, 100, 32, 113, 117, 111, 116, 101, 114, 105, 103, 104, 116, 32, 112, 97, 114, 101, 110, 108, 101, 102, 116, 32, 112, 97, 114, 101, 110, 114, 105, 103, 104, 116, 32, 97, 115, 116, 101, 114, 105, 115, 107, 32, 112, 108, 117, 115, 32, 99, 111, 109, 109, 97, 32, 104, 121, 112, 104, 101, 110, 32, 112, 101, 114, 105, 111, 100, 32, 115, 108, 97, 115, 104, 32, 122, 101, 114, 111, 32, 111, 110, 101, 32, 116, 119, 111, 32, 116, 104, 114, 101, 101, 32, 102, 111, 117, 114, 32, 102, 105, 118, 101, 32, 115, 105, 120, 32, 115, 101, 118, 101, 110, 32, 101, 105, 103, 104, 116, 32, 110, 105, 110, 101, 32, 99, 111, 108, 111, 110, 32, 115, 101, 109, 105, 99, 111, 108, 111, 110, 32, 108, 101, 115, 115, 32, 101, 113, 117, 97, 108, 32, 103, 114, 101, 97, 116, 101, 114, 32, 113, 117, 101, 115, 116, 105, 111, 110, 32, 97, 116, 32, 65, 32, 66, 32, 67, 32, 68, 32, 69, 32, 70, 32, 71, 32, 72, 32, 73, 32, 74, 32, 75, 32, 76, 32, 77, 32, 78, 32, 79, 32, 80, 32, 81, 32, 82, 32, 83, 32, 84, 32, 85, 32, 86, 32, 87, 32, 88, 32, 89, 32, 90, 32, 98, 114, 97, 99, 107, 101, 116, 108, 101, 102, 116, 32, 98, 97, 99, 107, 115, 108, 97, 115, 104, 32, 98, 114, 97, 99, 107, 101, 116, 114, 105, 103, 104, 116, 32, 97, 115, 99, 105, 105, 99, 105, 114, 99, 117, 109, 32, 117, 110, 100, 101, 114, 115, 99, 111, 114, 101, 32, 113, 117, 111, 116, 101, 108, 101, 102, 116, 32, 97, 32, 98, 32, 99, 32, 100, 32, 101, 32, 102, 32, 103, 32, 104, 32, 105, 32, 106, 32, 107, 32, 108, 32, 109, 32, 110, 32, 111, 32, 112, 32, 113, 32, 114, 32, 115, 32, 116, 32, 117, 32, 118, 32, 119, 32, 120, 32, 121, 32, 122, 32, 98, 114, 97, 99, 101, 108, 101, 102, 116, 32, 98, 97, 114, 32, 98, 114, 97, 99, 101, 114, 105, 103, 104, 116, 32, 97, 115, 99, 105, 105, 116, 105, 108, 100, 101, 32, 45, 32, 45, 32, 45, 32, 45, 32, 45, 32, 45, 32, 45, 32, 45, 32, 45, 32, 45, 32, 45, 32, 45, 32, 45, 32, 45, 32, 45, 32, 45, 32, 45, 32, 45, 32, 45, 32, 45, 32, 45, 32, 45, 32, 45, 32, 45, 32, 45, 32, 45, 32, 45, 32, 45, 32, 45, 32, 45, 32, 45, 32, 45, 32, 45, 32, 45, 32, 101, 120, 99, 108, 97, 109, 100, 111, 119, 110, 32, 99, 101, 110, 116, 32, 115, 116, 101, 114, 108, 105, 110, 103, 32, 102, 114, 97, 99, 116, 105, 111, 110, 32, 121, 101, 110, 32, 102, 108, 111, 114, 105, 110, 32, 115, 101, 99, 116, 105, 111, 110, 32, 99, 117, 114, 114, 101, 110, 99, 121, 32, 113, 117, 111, 116, 101, 115, 105, 110, 103, 108, 101, 32, 113, 117, 111, 116, 101, 100, 98, 108, 108, 101, 102, 116, 32, 103, 117, 105, 108, 108, 101, 109, 111, 116, 108, 101, 102, 116, 32, 103, 117, 105, 108, 115, 105, 110, 103, 108, 108, 101, 102, 116, 32, 103, 117, 105, 108, 115, 105, 110, 103, 108, 114, 105, 103, 104, 116, 32, 102, 105, 32, 102, 108, 32, 45, 32, 101, 110, 100, 97, 115, 104, 32, 100, 97, 103, 103, 101, 114, 32, 100, 97, 103, 103, 101, 114, 100, 98, 108, 32, 112, 101, 114, 105, 111, 100, 99, 101, 110, 116, 101, 114, 101, 100, 32, 45, 32, 112, 97, 114, 97, 103, 114, 97, 112, 104, 32, 98, 117, 108, 108, 101, 116, 32, 113, 117, 111, 116, 101, 115, 105, 110, 103, 108, 98, 97, 115, 101, 32, 113, 117, 111, 116, 101, 100, 98, 108, 98, 97, 115, 101, 32, 113, 117, 111, 116, 101, 100, 98, 108, 114, 105, 103, 104, 116, 32, 103, 117, 105, 108, 108, 101, 109, 111, 116, 114, 105, 103, 104, 116, 32, 101, 108, 108, 105, 112, 115, 105, 115, 32, 112, 101, 114, 116, 104, 111, 117, 115, 97, 110, 100, 32, 45, 32, 113, 117, 101, 115, 116, 105, 111, 110, 100, 111, 119, 110, 32, 45, 32, 103, 114, 97, 118, 101, 32, 97, 99, 117, 116, 101, 32, 99, 105, 114, 99, 117, 109, 102, 108, 101, 120, 32, 116, 105, 108, 100, 101, 32, 109, 97, 99, 114, 111, 110, 32, 98, 114, 101, 118, 101, 32, 100, 111, 116, 97, 99, 99, 101, 110, 116, 32, 100, 105, 101, 114, 101, 115, 105, 115, 32, 45, 32, 114, 105, 110, 103, 32, 99, 101, 100, 105, 108, 108, 97, 32, 45, 32, 104, 117, 110, 103, 97, 114, 117, 109, 108, 97, 117, 116, 32, 111, 103, 111, 110, 101, 107, 32, 99, 97, 114, 111, 110, 32, 101, 109, 100, 97, 115, 104, 32, 45, 32, 45, 32, 45, 32, 45, 32, 45, 32, 45, 32, 45, 32, 45, 32, 45, 32, 45, 32, 45, 32, 45, 32, 45, 32, 45, 32, 45, 32, 45, 32, 65, 69, 32, 45, 32, 111, 114, 100, 102, 101, 109, 105, 110, 105, 110, 101, 32, 45, 32, 45, 32, 45, 32, 45, 32, 76, 115, 108, 97, 115, 104, 32, 79, 115, 108, 97, 115, 104, 32, 79, 69, 32, 111, 114, 100, 109, 97, 115, 99, 117, 108, 105, 110, 101, 32, 45, 32, 45, 32, 45, 32, 45, 32, 45, 32, 97, 101, 32, 45, 32, 45, 32, 45, 32, 100, 111, 116, 108, 101, 115, 115, 105, 32, 45, 32, 45, 32, 108, 115, 108, 97, 115, 104, 32, 111, 115, 108, 97, 115, 104, 32, 111, 101, 32, 103, 101, 114, 109, 97, 110, 100, 98, 108, 115, 32, 45, 32, 45, 32, 45, 32, 45, 32]⟩ : ByteArray)) = some r := h
 clear h
 obtain rfl := Option.some.inj H
 go_enter Tryz.func65, Tryz.ntmps65
 go_wp2
 go_ret
 exact ⟨by first | rfl | (simp; done) | (simp [*]; done), by repeat (first | exact Drawn0.refl _ | apply Drawn0.step)⟩
end Go.Proofs.YtdcldaknmenklaaGreatDoor.M
end
