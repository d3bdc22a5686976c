/- Laid by this session's program hbprint.py out of the translation: the function hornbook/hornbooklaw03.LexSkips and its contract. -/
import Derived.Test.YtaolcbklpdodaaaDoorQK
import Derived.Test.YtaolcbklpdodaaaDoorG
import Derived.Test.YtaolcbklpdodaaaDoorQ12
import Derived.Test.YtaolcbklpdodaaaDoorQ14
import Derived.Test.YtaolcbklpdodaaaDoorQ9
namespace Go.Proofs.YtaolcbklpdodaaaDoor.M
open Go.RowKit Go.Proofs.YtaolcbklpdodaaaDoorW.PrintWords Go.Proofs.YtaolcbklpdodaaaDoorW.PrintLast Go.Proofs.YtaolcbklpdodaaaDoorW.PrintMore
attribute [local go_sem] max2_int min2_int max_two min_two max_three min_three max_four min_four
set_option linter.unusedVariables false
set_option linter.unusedSimpArgs false

/-! ### hornbooklaw03_LexSkips: function 4 -/
mutual
def hornbooklaw03_LexSkips.j0 : Nat → ByteArray → Int → ByteArray → Bool → Bool → Option (Bool)
  | 0, _, _, _, _, _ => none
  | k + 1, x0, x1, x2, x7, x19 => if x19 = true then (some x7) else ((lex_Skip.f k x0 x1).bind fun t129 => (if t129 < 0 then (hornbooklaw03_LexSkips.j1 k x0 x2 x7 t129 true) else (if t129 > (x0.size : Int) then (hornbooklaw03_LexSkips.j1 k x0 x2 x7 t129 true) else ((lex_Skip.f k x0 t129).bind fun t130 => (if t130 = t129 then (if x1 ≥ 0 then (if x1 ≤ (x0.size : Int) then (hornbooklaw03_LexSkips.j1 k x0 x2 x7 t129 (decide (t129 < x1))) else (hornbooklaw03_LexSkips.j1 k x0 x2 x7 t129 false)) else (hornbooklaw03_LexSkips.j1 k x0 x2 x7 t129 false)) else (hornbooklaw03_LexSkips.j1 k x0 x2 x7 t129 true))))))
def hornbooklaw03_LexSkips.j1 : Nat → ByteArray → ByteArray → Bool → Int → Bool → Option (Bool)
  | 0, _, _, _, _, _ => none
  | k + 1, x0, x2, x7, x8, x53 => if x53 = true then (some false) else (if x8 < (x0.size : Int) then (if 0 ≤ x8 then ((lex_Class.f k (wrap64 (bt x0 x8))).bind fun t131 => (if t131 = 1 then (hornbooklaw03_LexSkips.j2 k x0 x2 x7 true) else (hornbooklaw03_LexSkips.j2 k x0 x2 x7 ((bt x0 x8) == 37)))) else (none)) else (hornbooklaw03_LexSkips.j2 k x0 x2 x7 false))
def hornbooklaw03_LexSkips.j2 : Nat → ByteArray → ByteArray → Bool → Bool → Option (Bool)
  | 0, _, _, _, _ => none
  | k + 1, x0, x2, x7, x71 => if x71 = true then (some false) else (hornbooklaw03_LexSkips.l0 k x0 x2 x7 (⟨#[32, 37]⟩ : ByteArray) 0)
def hornbooklaw03_LexSkips.l0 : Nat → ByteArray → ByteArray → Bool → ByteArray → Int → Option (Bool)
  | 0, _, _, _, _, _ => none
  | k + 1, x0, x2, x7, x9, x10 => if x10 < (x2.size : Int) then (if 0 ≤ x10 then (if (bt x2 x10) = 10 then (hornbooklaw03_LexSkips.l0 k x0 x2 x7 x9 (wrap64 (x10 + 1))) else (if (bt x2 x10) = 13 then (hornbooklaw03_LexSkips.l0 k x0 x2 x7 x9 (wrap64 (x10 + 1))) else (if x10 ≤ (wrap64 (x10 + 1)) then (if (wrap64 (x10 + 1)) ≤ (x2.size : Int) then (if x9.size + (x2.extract (x10 : Int).toNat ((wrap64 (x10 + 1)) : Int).toNat).size ≤ 9223372036854775807 then (hornbooklaw03_LexSkips.l0 k x0 x2 x7 (x9 ++ (x2.extract (x10 : Int).toNat ((wrap64 (x10 + 1)) : Int).toNat)) (wrap64 (x10 + 1))) else (none)) else (none)) else (none)))) else (none)) else (if x9.size + 1 ≤ 9223372036854775807 then (if x7 = true then (if (x9 ++ (⟨#[10]⟩ : ByteArray)).size + x0.size ≤ 9223372036854775807 then ((lex_Skip.f k ((x9 ++ (⟨#[10]⟩ : ByteArray)) ++ x0) 0).bind fun t132 => ((lex_Skip.f k x0 0).bind fun t133 => (some (t132 == (wrap64 (((x9 ++ (⟨#[10]⟩ : ByteArray)).size : Int) + t133)))))) else (none)) else (some false)) else (none))
end
def hornbooklaw03_LexSkips.f (k : Nat) (a0 : ByteArray) (a1 : Int) (a2 : ByteArray) : Option (Bool) := (hornbooklaw03_awake.f k).bind fun t128 => (if (a0.size : Int) > 500 then (hornbooklaw03_LexSkips.j0 k a0 a1 a2 t128 true) else (hornbooklaw03_LexSkips.j0 k a0 a1 a2 t128 (decide ((a2.size : Int) > 300))))
theorem hornbooklaw03_LexSkips.mono_l : ∀ k, (∀ y0 y1 y2 y3 y4, LeO (hornbooklaw03_LexSkips.j0 k y0 y1 y2 y3 y4) (hornbooklaw03_LexSkips.j0 (k + 1) y0 y1 y2 y3 y4)) ∧ (∀ y0 y1 y2 y3 y4, LeO (hornbooklaw03_LexSkips.j1 k y0 y1 y2 y3 y4) (hornbooklaw03_LexSkips.j1 (k + 1) y0 y1 y2 y3 y4)) ∧ (∀ y0 y1 y2 y3, LeO (hornbooklaw03_LexSkips.j2 k y0 y1 y2 y3) (hornbooklaw03_LexSkips.j2 (k + 1) y0 y1 y2 y3)) ∧ (∀ y0 y1 y2 y3 y4, LeO (hornbooklaw03_LexSkips.l0 k y0 y1 y2 y3 y4) (hornbooklaw03_LexSkips.l0 (k + 1) y0 y1 y2 y3 y4))
  | 0 => ⟨fun _ _ _ _ _ r h => by simp [hornbooklaw03_LexSkips.j0] at h, fun _ _ _ _ _ r h => by simp [hornbooklaw03_LexSkips.j1] at h, fun _ _ _ _ r h => by simp [hornbooklaw03_LexSkips.j2] at h, fun _ _ _ _ _ r h => by simp [hornbooklaw03_LexSkips.l0] at h⟩
  | k + 1 => by
    obtain ⟨ih0, ih1, ih2, ih3⟩ := hornbooklaw03_LexSkips.mono_l k
    refine ⟨?_, ?_, ?_, ?_⟩
    · intro y0 y1 y2 y3 y4
      unfold hornbooklaw03_LexSkips.j0
      repeat' first
      | (with_reducible exact ih0 _ _ _ _ _)
      | (with_reducible exact ih1 _ _ _ _ _)
      | (with_reducible exact ih2 _ _ _ _)
      | (with_reducible exact ih3 _ _ _ _ _)
      | (with_reducible exact hornbooklaw03_awake.mono _)
      | (with_reducible exact lex_Class.mono _ _)
      | (with_reducible exact lex_Skip.mono _ _ _)
      | (with_reducible exact LeO.refl _)
      | (with_reducible exact LeO.none _)
      | (with_reducible refine LeO.ite ?_ ?_)
      | (with_reducible refine LeO.bind ?_ (fun _ => ?_))
      | exact ih0 _ _ _ _ _
      | exact ih1 _ _ _ _ _
      | exact ih2 _ _ _ _
      | exact ih3 _ _ _ _ _
      | exact hornbooklaw03_awake.mono _
      | exact lex_Class.mono _ _
      | exact lex_Skip.mono _ _ _
      | exact LeO.none _
      | refine LeO.ite ?_ ?_
      | refine LeO.bind ?_ (fun _ => ?_)
    · intro y0 y1 y2 y3 y4
      unfold hornbooklaw03_LexSkips.j1
      repeat' first
      | (with_reducible exact ih0 _ _ _ _ _)
      | (with_reducible exact ih1 _ _ _ _ _)
      | (with_reducible exact ih2 _ _ _ _)
      | (with_reducible exact ih3 _ _ _ _ _)
      | (with_reducible exact hornbooklaw03_awake.mono _)
      | (with_reducible exact lex_Class.mono _ _)
      | (with_reducible exact lex_Skip.mono _ _ _)
      | (with_reducible exact LeO.refl _)
      | (with_reducible exact LeO.none _)
      | (with_reducible refine LeO.ite ?_ ?_)
      | (with_reducible refine LeO.bind ?_ (fun _ => ?_))
      | exact ih0 _ _ _ _ _
      | exact ih1 _ _ _ _ _
      | exact ih2 _ _ _ _
      | exact ih3 _ _ _ _ _
      | exact hornbooklaw03_awake.mono _
      | exact lex_Class.mono _ _
      | exact lex_Skip.mono _ _ _
      | exact LeO.none _
      | refine LeO.ite ?_ ?_
      | refine LeO.bind ?_ (fun _ => ?_)
    · intro y0 y1 y2 y3
      unfold hornbooklaw03_LexSkips.j2
      repeat' first
      | (with_reducible exact ih0 _ _ _ _ _)
      | (with_reducible exact ih1 _ _ _ _ _)
      | (with_reducible exact ih2 _ _ _ _)
      | (with_reducible exact ih3 _ _ _ _ _)
      | (with_reducible exact hornbooklaw03_awake.mono _)
      | (with_reducible exact lex_Class.mono _ _)
      | (with_reducible exact lex_Skip.mono _ _ _)
      | (with_reducible exact LeO.refl _)
      | (with_reducible exact LeO.none _)
      | (with_reducible refine LeO.ite ?_ ?_)
      | (with_reducible refine LeO.bind ?_ (fun _ => ?_))
      | exact ih0 _ _ _ _ _
      | exact ih1 _ _ _ _ _
      | exact ih2 _ _ _ _
      | exact ih3 _ _ _ _ _
      | exact hornbooklaw03_awake.mono _
      | exact lex_Class.mono _ _
      | exact lex_Skip.mono _ _ _
      | exact LeO.none _
      | refine LeO.ite ?_ ?_
      | refine LeO.bind ?_ (fun _ => ?_)
    · intro y0 y1 y2 y3 y4
      unfold hornbooklaw03_LexSkips.l0
      repeat' first
      | (with_reducible exact ih0 _ _ _ _ _)
      | (with_reducible exact ih1 _ _ _ _ _)
      | (with_reducible exact ih2 _ _ _ _)
      | (with_reducible exact ih3 _ _ _ _ _)
      | (with_reducible exact hornbooklaw03_awake.mono _)
      | (with_reducible exact lex_Class.mono _ _)
      | (with_reducible exact lex_Skip.mono _ _ _)
      | (with_reducible exact LeO.refl _)
      | (with_reducible exact LeO.none _)
      | (with_reducible refine LeO.ite ?_ ?_)
      | (with_reducible refine LeO.bind ?_ (fun _ => ?_))
      | exact ih0 _ _ _ _ _
      | exact ih1 _ _ _ _ _
      | exact ih2 _ _ _ _
      | exact ih3 _ _ _ _ _
      | exact hornbooklaw03_awake.mono _
      | exact lex_Class.mono _ _
      | exact lex_Skip.mono _ _ _
      | exact LeO.none _
      | refine LeO.ite ?_ ?_
      | refine LeO.bind ?_ (fun _ => ?_)
theorem hornbooklaw03_LexSkips.mono : ∀ a0 a1 a2 k, LeO (hornbooklaw03_LexSkips.f k a0 a1 a2) (hornbooklaw03_LexSkips.f (k + 1) a0 a1 a2) := by
  intro a0 a1 a2 k
  obtain ⟨ih0, ih1, ih2, ih3⟩ := hornbooklaw03_LexSkips.mono_l k
  unfold hornbooklaw03_LexSkips.f
  repeat' first
      | (with_reducible exact ih0 _ _ _ _ _)
      | (with_reducible exact ih1 _ _ _ _ _)
      | (with_reducible exact ih2 _ _ _ _)
      | (with_reducible exact ih3 _ _ _ _ _)
      | (with_reducible exact hornbooklaw03_awake.mono _)
      | (with_reducible exact lex_Class.mono _ _)
      | (with_reducible exact lex_Skip.mono _ _ _)
      | (with_reducible exact LeO.refl _)
      | (with_reducible exact LeO.none _)
      | (with_reducible refine LeO.ite ?_ ?_)
      | (with_reducible refine LeO.bind ?_ (fun _ => ?_))
      | exact ih0 _ _ _ _ _
      | exact ih1 _ _ _ _ _
      | exact ih2 _ _ _ _
      | exact ih3 _ _ _ _ _
      | exact hornbooklaw03_awake.mono _
      | exact lex_Class.mono _ _
      | exact lex_Skip.mono _ _ _
      | exact LeO.none _
      | refine LeO.ite ?_ ?_
      | refine LeO.bind ?_ (fun _ => ?_)
set_option maxHeartbeats 8000000 in
set_option maxRecDepth 100000 in
theorem hornbooklaw03_LexSkips.calls (k : Nat) (a0 : ByteArray) (a1 : Int) (a2 : ByteArray) (r : Bool) (w : World) (hG : GW w) (h : hornbooklaw03_LexSkips.f k a0 a1 a2 = some r) :
    Calls Tryd.prog 4 #[.string a0, .int .i64 a1, .string a2] w fun e w' => e = .returned (.bool r) ∧ Below w.heap.size w w' := by
  have HG := Aside0.mk hG
  clear hG
  have HB := Aside0.mk (Below.refl w.heap.size w)
  have H : ((hornbooklaw03_awake.f k).bind fun t128 => (if (a0.size : Int) > 500 then (hornbooklaw03_LexSkips.j0 k a0 a1 a2 t128 true) else (hornbooklaw03_LexSkips.j0 k a0 a1 a2 t128 (decide ((a2.size : Int) > 300))))) = some r := h
  clear h
  replace H := Option.bind_eq_some_iff.mp H
  obtain ⟨t128, A40, H⟩ := H
  replace H : (if (a0.size : Int) > 500 then (hornbooklaw03_LexSkips.j0 k a0 a1 a2 t128 true) else (hornbooklaw03_LexSkips.j0 k a0 a1 a2 t128 (decide ((a2.size : Int) > 300)))) = some r := H
  have A4 := Aside0.mk A40
  clear A40
  have HC5 := Aside0.mk H
  clear H
  go_enter Tryd.func4, Tryd.ntmps4
  go_upto_region 2 with (first | ((with_reducible refine gate_callee (f := 9) rfl ?_); refine goesL_ (some 11) rfl rfl Tryd.func9 (by kernel_rfl) rfl #[] rfl (by (try simp only [List.map_toArray, List.map_cons, List.map_nil]); first | done | rfl | (simp only [List.length_drop, List.length_take]; rfl)) ?_; (with_reducible refine (hornbooklaw03_awake.calls k  t128 _ ?side1 A4.out).mono ?_); (case side1 => exact GW.below (by repeat (first | (with_reducible first | exact HB.out | apply below_alloc | apply pw_below_drewN | apply below_drew1) | exact HB.out)) HG.out); rintro e w6 ⟨rfl, hb⟩; refine ⟨_, rfl, ?_⟩; have n0_ := Aside0.mk (below_step (by repeat (first | (with_reducible first | exact HB.out | apply below_alloc | apply pw_below_drewN | apply below_drew1) | exact HB.out)) hb); clear HB; have HB := n0_; clear n0_; (try clear hb); (try clear hb2); (try clear hk); (try clear hi)))
  (try simp only [Act.put, List.setIfInBounds_toArray, List.set_cons_zero, List.set_cons_succ])
  go_cut [19] (fun v19 wc => ∃ (kq : Nat) (x19_4 : Bool), v19 = .bool x19_4 ∧ Aside0 (hornbooklaw03_LexSkips.j0 kq a0 a1 a2 t128 x19_4 = some r) ∧ Aside0 (kq ≤ k) ∧ Aside0 (Below w.heap.size w wc))
  case first =>
    have H := HC5.out
    clear HC5
    by_cases c7 : (a0.size : Int) > 500
    · rw [if_pos c7] at H
      have c7b0 : decide (500 < (a0.size : Int)) = true := decide_eq_true c7
      have c7b1 : decide (500 < a0.size) = true := decide_eq_true (by omega)
      clear c7
      (first | rw [c7b0] | (simp only [i64_w, i32_w]; rw [c7b0]) | skip)
      have H' := Aside0.mk H
      clear H
      go_wp2
      go_meet
      case rel => exact ⟨_, (true), (by first | rfl | (simp; done) | (simp [*]; done)), H', ⟨by first | omega | exact Nat.le_refl _⟩, ⟨by repeat (first | (with_reducible first | exact HB.out | apply below_alloc | apply pw_below_drewN | apply below_drew1) | exact HB.out)⟩⟩
    · rw [if_neg c7] at H
      have c7b0 : decide (500 < (a0.size : Int)) = false := decide_eq_false c7
      have c7b1 : decide (500 < a0.size) = false := decide_eq_false (by omega)
      clear c7
      (first | rw [c7b0] | (simp only [i64_w, i32_w]; rw [c7b0]) | skip)
      have H' := Aside0.mk H
      clear H
      go_wp2
      go_meet
      case rel => exact ⟨_, (decide ((a2.size : Int) > 300)), (by first | rfl | (simp; done) | (simp [*]; done)), H', ⟨by first | omega | exact Nat.le_refl _⟩, ⟨by repeat (first | (with_reducible first | exact HB.out | apply below_alloc | apply pw_below_drewN | apply below_drew1) | exact HB.out)⟩⟩
  case rest =>
    clear HC5
    try clear p2
    try clear c4
    try clear c7
    try clear c7b0
    try clear c7b1
    obtain ⟨kq, x19_4, rfl, HA, HJ4, HB⟩ := hcut
    cases kq with
    | zero => exact absurd HA.out (by simp [hornbooklaw03_LexSkips.j0])
    | succ kj4 =>
      have H := HA.out
      clear HA
      simp only [hornbooklaw03_LexSkips.j0] at H
      by_cases c8 : x19_4 = true
      · subst c8
        have H1 : (some t128) = some r := by rw [if_pos rfl] at H; exact H
        clear H
        have H := H1
        clear H1
        obtain rfl := Option.some.inj H
        go_wp2
        go_ret
        exact ⟨by first | rfl | (simp [errW_none, errW_some] <;> rfl) | (simp [*, errW_none, errW_some] <;> rfl), by repeat (first | (with_reducible first | exact HB.out | apply below_alloc | apply pw_below_drewN | apply below_drew1) | exact HB.out)⟩
      · replace c8 := Bool.eq_false_iff.mpr c8
        subst c8
        have H1 : ((lex_Skip.f kj4 a0 a1).bind fun t129 => (if t129 < 0 then (hornbooklaw03_LexSkips.j1 kj4 a0 a2 t128 t129 true) else (if t129 > (a0.size : Int) then (hornbooklaw03_LexSkips.j1 kj4 a0 a2 t128 t129 true) else ((lex_Skip.f kj4 a0 t129).bind fun t130 => (if t130 = t129 then (if a1 ≥ 0 then (if a1 ≤ (a0.size : Int) then (hornbooklaw03_LexSkips.j1 kj4 a0 a2 t128 t129 (decide (t129 < a1))) else (hornbooklaw03_LexSkips.j1 kj4 a0 a2 t128 t129 false)) else (hornbooklaw03_LexSkips.j1 kj4 a0 a2 t128 t129 false)) else (hornbooklaw03_LexSkips.j1 kj4 a0 a2 t128 t129 true)))))) = some r := by rw [if_neg (show ¬ (false = true) by decide)] at H; exact H
        clear H
        have H := H1
        clear H1
        replace H := Option.bind_eq_some_iff.mp H
        obtain ⟨t129, A90, H⟩ := H
        replace H : (if t129 < 0 then (hornbooklaw03_LexSkips.j1 kj4 a0 a2 t128 t129 true) else (if t129 > (a0.size : Int) then (hornbooklaw03_LexSkips.j1 kj4 a0 a2 t128 t129 true) else ((lex_Skip.f kj4 a0 t129).bind fun t130 => (if t130 = t129 then (if a1 ≥ 0 then (if a1 ≤ (a0.size : Int) then (hornbooklaw03_LexSkips.j1 kj4 a0 a2 t128 t129 (decide (t129 < a1))) else (hornbooklaw03_LexSkips.j1 kj4 a0 a2 t128 t129 false)) else (hornbooklaw03_LexSkips.j1 kj4 a0 a2 t128 t129 false)) else (hornbooklaw03_LexSkips.j1 kj4 a0 a2 t128 t129 true))))) = some r := H
        have A9 := Aside0.mk A90
        clear A90
        have HC10 := Aside0.mk H
        clear H
        go_upto_region 5 with (first | ((with_reducible refine gate_callee (f := 14) rfl ?_); refine goesL_ (some 23) rfl rfl Tryd.func14 (by kernel_rfl) rfl #[.string a0, .int .i64 a1] rfl (by (try simp only [List.map_toArray, List.map_cons, List.map_nil]); first | done | rfl | (simp only [List.length_drop, List.length_take]; rfl)) ?_; (with_reducible refine (lex_Skip.calls kj4 a0 a1 t129 _ A9.out).mono ?_); rintro e w11 ⟨rfl, hb⟩; refine ⟨_, rfl, ?_⟩; have n0_ := Aside0.mk (below_step (by repeat (first | (with_reducible first | exact HB.out | apply below_alloc | apply pw_below_drewN | apply below_drew1) | exact HB.out)) hb); clear HB; have HB := n0_; clear n0_; (try clear hb); (try clear hb2); (try clear hk); (try clear hi)))
        (try simp only [Act.put, List.setIfInBounds_toArray, List.set_cons_zero, List.set_cons_succ])
        go_cut [53] (fun v53 wc => ∃ (kq : Nat) (x53_9 : Bool), v53 = .bool x53_9 ∧ Aside0 (hornbooklaw03_LexSkips.j1 kq a0 a2 t128 t129 x53_9 = some r) ∧ Aside0 (kq ≤ kj4) ∧ Aside0 (Below w.heap.size w wc))
        case first =>
          have H := HC10.out
          clear HC10
          by_cases c12 : t129 < 0
          · rw [if_pos c12] at H
            have c12b0 : decide (t129 < 0) = true := decide_eq_true c12
            clear c12
            (first | rw [c12b0] | (simp only [i64_w, i32_w]; rw [c12b0]) | skip)
            have H' := Aside0.mk H
            clear H
            go_wp2
            go_meet
            case rel => exact ⟨_, (true), (by first | rfl | (simp; done) | (simp [*]; done)), H', ⟨by have := HJ4.out; first | omega | exact Nat.le_refl _⟩, ⟨by repeat (first | (with_reducible first | exact HB.out | apply below_alloc | apply pw_below_drewN | apply below_drew1) | exact HB.out)⟩⟩
          · rw [if_neg c12] at H
            have c12b0 : decide (t129 < 0) = false := decide_eq_false c12
            clear c12
            (first | rw [c12b0] | (simp only [i64_w, i32_w]; rw [c12b0]) | skip)
            by_cases c13 : t129 > (a0.size : Int)
            · rw [if_pos c13] at H
              have c13b0 : decide ((a0.size : Int) < t129) = true := decide_eq_true c13
              clear c13
              have H' := Aside0.mk H
              clear H
              go_wp2
              go_meet
              case rel => exact ⟨_, (true), (by first | rfl | (simp; done) | (simp [*]; done)), H', ⟨by have := HJ4.out; first | omega | exact Nat.le_refl _⟩, ⟨by repeat (first | (with_reducible first | exact HB.out | apply below_alloc | apply pw_below_drewN | apply below_drew1) | exact HB.out)⟩⟩
            · rw [if_neg c13] at H
              have c13b0 : decide ((a0.size : Int) < t129) = false := decide_eq_false c13
              clear c13
              replace H := Option.bind_eq_some_iff.mp H
              obtain ⟨t130, A140, H⟩ := H
              replace H : (if t130 = t129 then (if a1 ≥ 0 then (if a1 ≤ (a0.size : Int) then (hornbooklaw03_LexSkips.j1 kj4 a0 a2 t128 t129 (decide (t129 < a1))) else (hornbooklaw03_LexSkips.j1 kj4 a0 a2 t128 t129 false)) else (hornbooklaw03_LexSkips.j1 kj4 a0 a2 t128 t129 false)) else (hornbooklaw03_LexSkips.j1 kj4 a0 a2 t128 t129 true)) = some r := H
              have A14 := Aside0.mk A140
              clear A140
              by_cases c15 : t130 = t129
              · rw [if_pos c15] at H
                have c15b0 : (t130 == t129) = true := beq_iff_eq.mpr c15
                have c15b1 : (t130 != t129) = false := bne_eq_false_iff_eq.mpr c15
                clear c15
                by_cases c16 : a1 ≥ 0
                · rw [if_pos c16] at H
                  have c16b0 : decide (0 ≤ a1) = true := decide_eq_true c16
                  clear c16
                  by_cases c17 : a1 ≤ (a0.size : Int)
                  · rw [if_pos c17] at H
                    have c17b0 : decide (a1 ≤ (a0.size : Int)) = true := decide_eq_true c17
                    clear c17
                    have H' := Aside0.mk H
                    clear H
                    go_wp2_with (first | (go_at_call 14; (with_reducible refine (lex_Skip.calls kj4 a0 t129 t130 _ A14.out).mono ?_); rintro e w18 ⟨rfl, hb⟩; have n0_ := Aside0.mk (below_step (by repeat (first | (with_reducible first | exact HB.out | apply below_alloc | apply pw_below_drewN | apply below_drew1) | exact HB.out)) hb); clear HB; have HB := n0_; clear n0_; (try clear hb); (try clear hb2); (try clear hk); (try clear hi)))
                    go_meet
                    case rel => exact ⟨_, (decide (t129 < a1)), (by first | rfl | (simp; done) | (simp [*]; done)), H', ⟨by have := HJ4.out; first | omega | exact Nat.le_refl _⟩, ⟨by repeat (first | (with_reducible first | exact HB.out | apply below_alloc | apply pw_below_drewN | apply below_drew1) | exact HB.out)⟩⟩
                  · rw [if_neg c17] at H
                    have c17b0 : decide (a1 ≤ (a0.size : Int)) = false := decide_eq_false c17
                    clear c17
                    have H' := Aside0.mk H
                    clear H
                    go_wp2_with (first | (go_at_call 14; (with_reducible refine (lex_Skip.calls kj4 a0 t129 t130 _ A14.out).mono ?_); rintro e w19 ⟨rfl, hb⟩; have n0_ := Aside0.mk (below_step (by repeat (first | (with_reducible first | exact HB.out | apply below_alloc | apply pw_below_drewN | apply below_drew1) | exact HB.out)) hb); clear HB; have HB := n0_; clear n0_; (try clear hb); (try clear hb2); (try clear hk); (try clear hi)))
                    go_meet
                    case rel => exact ⟨_, (false), (by first | rfl | (simp; done) | (simp [*]; done)), H', ⟨by have := HJ4.out; first | omega | exact Nat.le_refl _⟩, ⟨by repeat (first | (with_reducible first | exact HB.out | apply below_alloc | apply pw_below_drewN | apply below_drew1) | exact HB.out)⟩⟩
                · rw [if_neg c16] at H
                  have c16b0 : decide (0 ≤ a1) = false := decide_eq_false c16
                  clear c16
                  have H' := Aside0.mk H
                  clear H
                  go_wp2_with (first | (go_at_call 14; (with_reducible refine (lex_Skip.calls kj4 a0 t129 t130 _ A14.out).mono ?_); rintro e w20 ⟨rfl, hb⟩; have n0_ := Aside0.mk (below_step (by repeat (first | (with_reducible first | exact HB.out | apply below_alloc | apply pw_below_drewN | apply below_drew1) | exact HB.out)) hb); clear HB; have HB := n0_; clear n0_; (try clear hb); (try clear hb2); (try clear hk); (try clear hi)))
                  go_meet
                  case rel => exact ⟨_, (false), (by first | rfl | (simp; done) | (simp [*]; done)), H', ⟨by have := HJ4.out; first | omega | exact Nat.le_refl _⟩, ⟨by repeat (first | (with_reducible first | exact HB.out | apply below_alloc | apply pw_below_drewN | apply below_drew1) | exact HB.out)⟩⟩
              · rw [if_neg c15] at H
                have c15b0 : (t130 == t129) = false := beq_eq_false_iff_ne.mpr c15
                have c15b1 : (t130 != t129) = true := bne_iff_ne.mpr c15
                have H' := Aside0.mk H
                clear H
                go_wp2_with (first | (go_at_call 14; (with_reducible refine (lex_Skip.calls kj4 a0 t129 t130 _ A14.out).mono ?_); rintro e w21 ⟨rfl, hb⟩; have n0_ := Aside0.mk (below_step (by repeat (first | (with_reducible first | exact HB.out | apply below_alloc | apply pw_below_drewN | apply below_drew1) | exact HB.out)) hb); clear HB; have HB := n0_; clear n0_; (try clear hb); (try clear hb2); (try clear hk); (try clear hi)))
                go_meet
                case rel => exact ⟨_, (true), (by first | rfl | (simp; done) | (simp [*]; done)), H', ⟨by have := HJ4.out; first | omega | exact Nat.le_refl _⟩, ⟨by repeat (first | (with_reducible first | exact HB.out | apply below_alloc | apply pw_below_drewN | apply below_drew1) | exact HB.out)⟩⟩
        case rest =>
          clear HC10
          try clear c1
          try clear p2
          try clear c4
          try clear c7
          try clear c7b0
          try clear c7b1
          try clear c8
          try clear c9
          try clear c12
          try clear c12b0
          try clear c13
          try clear c13b0
          try clear c14
          try clear c15
          try clear c15b0
          try clear c15b1
          try clear c16
          try clear c16b0
          try clear c17
          try clear c17b0
          try clear p2
          obtain ⟨kq, x53_9, rfl, HA, HJ9, HB⟩ := hcut
          cases kq with
          | zero => exact absurd HA.out (by simp [hornbooklaw03_LexSkips.j1])
          | succ kj9 =>
            have H := HA.out
            clear HA
            simp only [hornbooklaw03_LexSkips.j1] at H
            by_cases c22 : x53_9 = true
            · subst c22
              have H1 : (some false) = some r := by rw [if_pos rfl] at H; exact H
              clear H
              have H := H1
              clear H1
              obtain rfl := Option.some.inj H
              go_wp2
              go_ret
              exact ⟨by first | rfl | (simp [errW_none, errW_some] <;> rfl) | (simp [*, errW_none, errW_some] <;> rfl), by repeat (first | (with_reducible first | exact HB.out | apply below_alloc | apply pw_below_drewN | apply below_drew1) | exact HB.out)⟩
            · replace c22 := Bool.eq_false_iff.mpr c22
              subst c22
              have H1 : (if t129 < (a0.size : Int) then (if 0 ≤ t129 then ((lex_Class.f kj9 (wrap64 (bt a0 t129))).bind fun t131 => (if t131 = 1 then (hornbooklaw03_LexSkips.j2 kj9 a0 a2 t128 true) else (hornbooklaw03_LexSkips.j2 kj9 a0 a2 t128 ((bt a0 t129) == 37)))) else (none)) else (hornbooklaw03_LexSkips.j2 kj9 a0 a2 t128 false)) = some r := by rw [if_neg (show ¬ (false = true) by decide)] at H; exact H
              clear H
              have H := H1
              clear H1
              have HC23 := Aside0.mk H
              clear H
              go_upto_region 7 with (fail)
              go_cut [71] (fun v71 wc => ∃ (kq : Nat) (x71_22 : Bool), v71 = .bool x71_22 ∧ Aside0 (hornbooklaw03_LexSkips.j2 kq a0 a2 t128 x71_22 = some r) ∧ Aside0 (kq ≤ kj9) ∧ Aside0 (Below w.heap.size w wc))
              case first =>
                have H := HC23.out
                clear HC23
                by_cases c24 : t129 < (a0.size : Int)
                · rw [if_pos c24] at H
                  have c24b0 : decide (t129 < (a0.size : Int)) = true := decide_eq_true c24
                  clear c24
                  (first | rw [c24b0] | (simp only [i64_w, i32_w]; rw [c24b0]) | skip)
                  by_cases c25 : 0 ≤ t129
                  · rw [if_pos c25] at H
                    have c25b0 : decide (0 ≤ t129) = true := decide_eq_true c25
                    clear c25
                    replace H := Option.bind_eq_some_iff.mp H
                    obtain ⟨t131, A270, H⟩ := H
                    replace H : (if t131 = 1 then (hornbooklaw03_LexSkips.j2 kj9 a0 a2 t128 true) else (hornbooklaw03_LexSkips.j2 kj9 a0 a2 t128 ((bt a0 t129) == 37))) = some r := H
                    have A27 := Aside0.mk A270
                    clear A270
                    by_cases c28 : t131 = 1
                    · rw [if_pos c28] at H
                      have c28b0 : (t131 == 1) = true := beq_iff_eq.mpr c28
                      have c28b1 : (t131 != 1) = false := bne_eq_false_iff_eq.mpr c28
                      clear c28
                      have H' := Aside0.mk H
                      clear H
                      have p26 : 0 ≤ (t129 : Int) := of_decide_eq_true (by first | (with_reducible assumption) | assumption)
                      have q26 : t129 < (a0.size : Int) := of_decide_eq_true (by first | (with_reducible assumption) | assumption)
                      have hx26 := bt_at a0 t129
                      replace p26 := eq_true p26
                      replace q26 := eq_true q26
                      go_wp2_with (first | (go_at_call 12; (with_reducible refine (lex_Class.calls kj9 (wrap64 (bt a0 t129)) t131 _ A27.out).mono ?_); rintro e w29 ⟨rfl, hb⟩; have n0_ := Aside0.mk (below_step (by repeat (first | (with_reducible first | exact HB.out | apply below_alloc | apply pw_below_drewN | apply below_drew1) | exact HB.out)) hb); clear HB; have HB := n0_; clear n0_; (try clear hb); (try clear hb2); (try clear hk); (try clear hi)))
                      go_meet
                      case rel => exact ⟨_, (true), (by first | rfl | (simp; done) | (simp [*]; done)), H', ⟨by have := HJ4.out; have := HJ9.out; first | omega | exact Nat.le_refl _⟩, ⟨by repeat (first | (with_reducible first | exact HB.out | apply below_alloc | apply pw_below_drewN | apply below_drew1) | exact HB.out)⟩⟩
                    · rw [if_neg c28] at H
                      have c28b0 : (t131 == 1) = false := beq_eq_false_iff_ne.mpr c28
                      have c28b1 : (t131 != 1) = true := bne_iff_ne.mpr c28
                      have H' := Aside0.mk H
                      clear H
                      have p26 : 0 ≤ (t129 : Int) := of_decide_eq_true (by first | (with_reducible assumption) | assumption)
                      have q26 : t129 < (a0.size : Int) := of_decide_eq_true (by first | (with_reducible assumption) | assumption)
                      have hx26 := bt_at a0 t129
                      replace p26 := eq_true p26
                      replace q26 := eq_true q26
                      go_wp2_with (first | (go_at_call 12; (with_reducible refine (lex_Class.calls kj9 (wrap64 (bt a0 t129)) t131 _ A27.out).mono ?_); rintro e w31 ⟨rfl, hb⟩; have n0_ := Aside0.mk (below_step (by repeat (first | (with_reducible first | exact HB.out | apply below_alloc | apply pw_below_drewN | apply below_drew1) | exact HB.out)) hb); clear HB; have HB := n0_; clear n0_; (try clear hb); (try clear hb2); (try clear hk); (try clear hi); have p30 : 0 ≤ (t129 : Int) := of_decide_eq_true (by first | (with_reducible assumption) | assumption); have q30 : t129 < (a0.size : Int) := of_decide_eq_true (by first | (with_reducible assumption) | assumption); have hx30 := bt_at a0 t129; replace p30 := eq_true p30; replace q30 := eq_true q30))
                      go_meet
                      case rel => exact ⟨_, (((bt a0 t129) == 37)), (by first | rfl | (simp; done) | (simp [*]; done)), H', ⟨by have := HJ4.out; have := HJ9.out; first | omega | exact Nat.le_refl _⟩, ⟨by repeat (first | (with_reducible first | exact HB.out | apply below_alloc | apply pw_below_drewN | apply below_drew1) | exact HB.out)⟩⟩
                  · rw [if_neg c25] at H
                    exact absurd H (by simp)
                · rw [if_neg c24] at H
                  have c24b0 : decide (t129 < (a0.size : Int)) = false := decide_eq_false c24
                  clear c24
                  (first | rw [c24b0] | (simp only [i64_w, i32_w]; rw [c24b0]) | skip)
                  have H' := Aside0.mk H
                  clear H
                  go_wp2
                  go_meet
                  case rel => exact ⟨_, (false), (by first | rfl | (simp; done) | (simp [*]; done)), H', ⟨by have := HJ4.out; have := HJ9.out; first | omega | exact Nat.le_refl _⟩, ⟨by repeat (first | (with_reducible first | exact HB.out | apply below_alloc | apply pw_below_drewN | apply below_drew1) | exact HB.out)⟩⟩
              case rest =>
                clear HC23
                try clear c1
                try clear c2
                try clear p2
                try clear q2
                try clear hx2
                try clear p3
                try clear q3
                try clear hx3
                try clear c4
                try clear p6
                try clear c7
                try clear c7b0
                try clear c7b1
                try clear c8
                try clear c9
                try clear c12
                try clear c12b0
                try clear c13
                try clear c13b0
                try clear c14
                try clear c15
                try clear c15b0
                try clear c15b1
                try clear c16
                try clear c16b0
                try clear c17
                try clear c17b0
                try clear c22
                try clear c24
                try clear c24b0
                try clear c25
                try clear c25b0
                try clear p26
                try clear q26
                try clear hx26
                try clear c28
                try clear c28b0
                try clear c28b1
                try clear p30
                try clear q30
                try clear hx30
                try clear p2
                try clear p26
                try clear p30
                try clear q26
                try clear q30
                obtain ⟨kq, x71_22, rfl, HA, HJ22, HB⟩ := hcut
                cases kq with
                | zero => exact absurd HA.out (by simp [hornbooklaw03_LexSkips.j2])
                | succ kj22 =>
                  have H := HA.out
                  clear HA
                  simp only [hornbooklaw03_LexSkips.j2] at H
                  by_cases c32 : x71_22 = true
                  · subst c32
                    have H1 : (some false) = some r := by rw [if_pos rfl] at H; exact H
                    clear H
                    have H := H1
                    clear H1
                    obtain rfl := Option.some.inj H
                    go_wp2
                    go_ret
                    exact ⟨by first | rfl | (simp [errW_none, errW_some] <;> rfl) | (simp [*, errW_none, errW_some] <;> rfl), by repeat (first | (with_reducible first | exact HB.out | apply below_alloc | apply pw_below_drewN | apply below_drew1) | exact HB.out)⟩
                  · replace c32 := Bool.eq_false_iff.mpr c32
                    subst c32
                    have H1 : (hornbooklaw03_LexSkips.l0 kj22 a0 a2 t128 (⟨#[32, 37]⟩ : ByteArray) 0) = some r := by rw [if_neg (show ¬ (false = true) by decide)] at H; exact H
                    clear H
                    have H := H1
                    clear H1
                    have H' := Aside0.mk H
                    clear H
                    go_wp2
                    go_loopg [9, 10] kj22 (fun kq v9 v10 w' => ∃ (x9_4 : ByteArray) (x10_4 : Int), v9 = .string x9_4 ∧ v10 = .int .i64 x10_4 ∧ Aside0 (hornbooklaw03_LexSkips.l0 kq a0 a2 t128 x9_4 x10_4 = some r) ∧ Aside0 (kq ≤ kj22) ∧ Aside0 (Below w.heap.size w w'))
                    case atStart => exact ⟨((⟨#[32, 37]⟩ : ByteArray)), (0), (by first | rfl | (simp; done) | (simp [*]; done)), (by first | rfl | (simp; done) | (simp [*]; done)), H', ⟨Nat.le_refl _⟩, ⟨by repeat (first | (with_reducible first | exact HB.out | apply below_alloc | apply pw_below_drewN | apply below_drew1) | exact HB.out)⟩⟩
                    case round =>
                      clear H'
                      try clear c1
                      try clear c2
                      try clear p2
                      try clear q2
                      try clear hx2
                      try clear c3
                      try clear p3
                      try clear q3
                      try clear hx3
                      try clear c4
                      try clear p6
                      try clear c7
                      try clear c7b0
                      try clear c7b1
                      try clear c8
                      try clear c9
                      try clear c12
                      try clear c12b0
                      try clear c13
                      try clear c13b0
                      try clear c14
                      try clear c15
                      try clear c15b0
                      try clear c15b1
                      try clear c16
                      try clear c16b0
                      try clear c17
                      try clear c17b0
                      try clear c22
                      try clear c24
                      try clear c24b0
                      try clear c25
                      try clear c25b0
                      try clear p26
                      try clear q26
                      try clear hx26
                      try clear c28
                      try clear c28b0
                      try clear c28b1
                      try clear p30
                      try clear q30
                      try clear hx30
                      try clear c32
                      try clear p2
                      try clear p26
                      try clear p3
                      try clear p30
                      try clear p6
                      try clear q2
                      try clear q26
                      try clear q3
                      try clear q30
                      obtain ⟨x9_4, x10_4, rfl, rfl, HA, HK4, HB⟩ := hrel
                      cases gk with
                      | zero => exact absurd HA.out (by simp [hornbooklaw03_LexSkips.l0])
                      | succ k4 =>
                        have H := HA.out
                        clear HA
                        simp only [hornbooklaw03_LexSkips.l0] at H
                        by_cases c33 : x10_4 < (a2.size : Int)
                        · rw [if_pos c33] at H
                          have c33b0 : decide (x10_4 < (a2.size : Int)) = true := decide_eq_true c33
                          clear c33
                          by_cases c34 : 0 ≤ x10_4
                          · rw [if_pos c34] at H
                            have c34b0 : decide (0 ≤ x10_4) = true := decide_eq_true c34
                            clear c34
                            by_cases c36 : (bt a2 x10_4) = 10
                            · rw [if_pos c36] at H
                              have c36b0 : ((bt a2 x10_4) == 10) = true := beq_iff_eq.mpr c36
                              have c36b1 : ((bt a2 x10_4) != 10) = false := bne_eq_false_iff_eq.mpr c36
                              clear c36
                              have H' := Aside0.mk H
                              clear H
                              have p35 : 0 ≤ (x10_4 : Int) := of_decide_eq_true (by first | (with_reducible assumption) | assumption)
                              have q35 : x10_4 < (a2.size : Int) := of_decide_eq_true (by first | (with_reducible assumption) | assumption)
                              have hx35 := bt_at a2 x10_4
                              replace p35 := eq_true p35
                              replace q35 := eq_true q35
                              go_wp2
                              go_roundg k4
                              case measure => have := HJ4.out; have := HJ9.out; have := HJ22.out; have := HK4.out; omega
                              case rel => exact ⟨(x9_4), (wrap64 (x10_4 + 1)), (by first | rfl | (simp; done) | (simp [*]; done)), (by first | rfl | (simp; done) | (simp [*]; done)), H', ⟨by have := HJ4.out; have := HJ9.out; have := HJ22.out; have := HK4.out; omega⟩, ⟨by repeat (first | (with_reducible first | exact HB.out | apply below_alloc | apply pw_below_drewN | apply below_drew1) | exact HB.out)⟩⟩
                            · rw [if_neg c36] at H
                              have c36b0 : ((bt a2 x10_4) == 10) = false := beq_eq_false_iff_ne.mpr c36
                              have c36b1 : ((bt a2 x10_4) != 10) = true := bne_iff_ne.mpr c36
                              by_cases c38 : (bt a2 x10_4) = 13
                              · rw [if_pos c38] at H
                                have c38b0 : ((bt a2 x10_4) == 13) = true := beq_iff_eq.mpr c38
                                have c38b1 : ((bt a2 x10_4) != 13) = false := bne_eq_false_iff_eq.mpr c38
                                clear c38
                                have H' := Aside0.mk H
                                clear H
                                have p35 : 0 ≤ (x10_4 : Int) := of_decide_eq_true (by first | (with_reducible assumption) | assumption)
                                have q35 : x10_4 < (a2.size : Int) := of_decide_eq_true (by first | (with_reducible assumption) | assumption)
                                have hx35 := bt_at a2 x10_4
                                replace p35 := eq_true p35
                                replace q35 := eq_true q35
                                have p37 : 0 ≤ (x10_4 : Int) := of_decide_eq_true (by first | (with_reducible assumption) | assumption)
                                have q37 : x10_4 < (a2.size : Int) := of_decide_eq_true (by first | (with_reducible assumption) | assumption)
                                have hx37 := bt_at a2 x10_4
                                replace p37 := eq_true p37
                                replace q37 := eq_true q37
                                go_wp2
                                go_roundg k4
                                case measure => have := HJ4.out; have := HJ9.out; have := HJ22.out; have := HK4.out; omega
                                case rel => exact ⟨(x9_4), (wrap64 (x10_4 + 1)), (by first | rfl | (simp; done) | (simp [*]; done)), (by first | rfl | (simp; done) | (simp [*]; done)), H', ⟨by have := HJ4.out; have := HJ9.out; have := HJ22.out; have := HK4.out; omega⟩, ⟨by repeat (first | (with_reducible first | exact HB.out | apply below_alloc | apply pw_below_drewN | apply below_drew1) | exact HB.out)⟩⟩
                              · rw [if_neg c38] at H
                                have c38b0 : ((bt a2 x10_4) == 13) = false := beq_eq_false_iff_ne.mpr c38
                                have c38b1 : ((bt a2 x10_4) != 13) = true := bne_iff_ne.mpr c38
                                have c39b0 := eq_true (of_decide_eq_true (by first | (with_reducible assumption) | assumption) : 0 ≤ x10_4)
                                by_cases c40 : x10_4 ≤ (wrap64 (x10_4 + 1))
                                · rw [if_pos c40] at H
                                  have c40b0 := eq_true c40
                                  have c40b1 : decide (x10_4 ≤ (wrap64 (x10_4 + 1))) = true := decide_eq_true c40
                                  by_cases c41 : (wrap64 (x10_4 + 1)) ≤ (a2.size : Int)
                                  · rw [if_pos c41] at H
                                    have c41b0 := eq_true c41
                                    have c41b1 : decide ((wrap64 (x10_4 + 1)) ≤ (a2.size : Int)) = true := decide_eq_true c41
                                    by_cases c42 : x9_4.size + (a2.extract (x10_4 : Int).toNat ((wrap64 (x10_4 + 1)) : Int).toNat).size ≤ 9223372036854775807
                                    · rw [if_pos c42] at H
                                      have c42b0 := eq_true c42
                                      have c42b1 : decide (x9_4.size + (a2.extract (x10_4 : Int).toNat ((wrap64 (x10_4 + 1)) : Int).toNat).size ≤ 9223372036854775807) = true := decide_eq_true c42
                                      try have c42b2 : (9223372036854775807 < x9_4.size + (a2.extract (x10_4 : Int).toNat ((wrap64 (x10_4 + 1)) : Int).toNat).size) = False := eq_false (Nat.not_lt.2 c42)
                                      have H' := Aside0.mk H
                                      clear H
                                      have p35 : 0 ≤ (x10_4 : Int) := of_decide_eq_true (by first | (with_reducible assumption) | assumption)
                                      have q35 : x10_4 < (a2.size : Int) := of_decide_eq_true (by first | (with_reducible assumption) | assumption)
                                      have hx35 := bt_at a2 x10_4
                                      replace p35 := eq_true p35
                                      replace q35 := eq_true q35
                                      have p37 : 0 ≤ (x10_4 : Int) := of_decide_eq_true (by first | (with_reducible assumption) | assumption)
                                      have q37 : x10_4 < (a2.size : Int) := of_decide_eq_true (by first | (with_reducible assumption) | assumption)
                                      have hx37 := bt_at a2 x10_4
                                      replace p37 := eq_true p37
                                      replace q37 := eq_true q37
                                      go_wp2
                                      go_roundg k4
                                      case measure => have := HJ4.out; have := HJ9.out; have := HJ22.out; have := HK4.out; omega
                                      case rel => exact ⟨(x9_4 ++ (a2.extract (x10_4 : Int).toNat ((wrap64 (x10_4 + 1)) : Int).toNat)), (wrap64 (x10_4 + 1)), (by first | rfl | (simp; done) | (simp [*]; done)), (by first | rfl | (simp; done) | (simp [*]; done)), H', ⟨by have := HJ4.out; have := HJ9.out; have := HJ22.out; have := HK4.out; omega⟩, ⟨by repeat (first | (with_reducible first | exact HB.out | apply below_alloc | apply pw_below_drewN | apply below_drew1) | exact HB.out)⟩⟩
                                    · rw [if_neg c42] at H
                                      exact absurd H (by simp)
                                  · rw [if_neg c41] at H
                                    exact absurd H (by simp)
                                · rw [if_neg c40] at H
                                  exact absurd H (by simp)
                          · rw [if_neg c34] at H
                            exact absurd H (by simp)
                        · rw [if_neg c33] at H
                          have c33b0 : decide (x10_4 < (a2.size : Int)) = false := decide_eq_false c33
                          clear c33
                          by_cases c43 : x9_4.size + 1 ≤ 9223372036854775807
                          · rw [if_pos c43] at H
                            have c43b0 := eq_true c43
                            have c43b1 : decide (x9_4.size + 1 ≤ 9223372036854775807) = true := decide_eq_true c43
                            try have c43b2 : (9223372036854775807 < x9_4.size + 1) = False := eq_false (Nat.not_lt.2 c43)
                            by_cases c44 : t128 = true
                            · subst c44
                              have H1 : (if (x9_4 ++ (⟨#[10]⟩ : ByteArray)).size + a0.size ≤ 9223372036854775807 then ((lex_Skip.f k4 ((x9_4 ++ (⟨#[10]⟩ : ByteArray)) ++ a0) 0).bind fun t132 => ((lex_Skip.f k4 a0 0).bind fun t133 => (some (t132 == (wrap64 (((x9_4 ++ (⟨#[10]⟩ : ByteArray)).size : Int) + t133)))))) else (none)) = some r := by rw [if_pos rfl] at H; exact H
                              clear H
                              have H := H1
                              clear H1
                              by_cases c45 : (x9_4 ++ (⟨#[10]⟩ : ByteArray)).size + a0.size ≤ 9223372036854775807
                              · rw [if_pos c45] at H
                                have c45b0 := eq_true c45
                                have c45b1 : decide ((x9_4 ++ (⟨#[10]⟩ : ByteArray)).size + a0.size ≤ 9223372036854775807) = true := decide_eq_true c45
                                try have c45b2 : (9223372036854775807 < (x9_4 ++ (⟨#[10]⟩ : ByteArray)).size + a0.size) = False := eq_false (Nat.not_lt.2 c45)
                                replace H := Option.bind_eq_some_iff.mp H
                                obtain ⟨t132, A460, H⟩ := H
                                replace H : ((lex_Skip.f k4 a0 0).bind fun t133 => (some (t132 == (wrap64 (((x9_4 ++ (⟨#[10]⟩ : ByteArray)).size : Int) + t133))))) = some r := H
                                have A46 := Aside0.mk A460
                                clear A460
                                replace H := Option.bind_eq_some_iff.mp H
                                obtain ⟨t133, A470, H⟩ := H
                                replace H : (some (t132 == (wrap64 (((x9_4 ++ (⟨#[10]⟩ : ByteArray)).size : Int) + t133)))) = some r := H
                                have A47 := Aside0.mk A470
                                clear A470
                                obtain rfl := Option.some.inj H
                                go_wp2_with (first | (go_at_call 14; (with_reducible refine (lex_Skip.calls k4 ((x9_4 ++ (⟨#[10]⟩ : ByteArray)) ++ a0) 0 t132 _ A46.out).mono ?_); rintro e w48 ⟨rfl, hb⟩; have n0_ := Aside0.mk (below_step (by repeat (first | (with_reducible first | exact HB.out | apply below_alloc | apply pw_below_drewN | apply below_drew1) | exact HB.out)) hb); clear HB; have HB := n0_; clear n0_; (try clear hb); (try clear hb2); (try clear hk); (try clear hi)) | (go_at_call 14; (with_reducible refine (lex_Skip.calls k4 a0 0 t133 _ A47.out).mono ?_); rintro e w49 ⟨rfl, hb⟩; have n0_ := Aside0.mk (below_step (by repeat (first | (with_reducible first | exact HB.out | apply below_alloc | apply pw_below_drewN | apply below_drew1) | exact HB.out)) hb); clear HB; have HB := n0_; clear n0_; (try clear hb); (try clear hb2); (try clear hk); (try clear hi)))
                                go_ret
                                exact ⟨by first | rfl | (simp [errW_none, errW_some] <;> rfl) | (simp [*, errW_none, errW_some] <;> rfl), by repeat (first | (with_reducible first | exact HB.out | apply below_alloc | apply pw_below_drewN | apply below_drew1) | exact HB.out)⟩
                              · rw [if_neg c45] at H
                                exact absurd H (by simp)
                            · replace c44 := Bool.eq_false_iff.mpr c44
                              subst c44
                              have H1 : (some false) = some r := by rw [if_neg (show ¬ (false = true) by decide)] at H; exact H
                              clear H
                              have H := H1
                              clear H1
                              obtain rfl := Option.some.inj H
                              go_wp2
                              go_ret
                              exact ⟨by first | rfl | (simp [errW_none, errW_some] <;> rfl) | (simp [*, errW_none, errW_some] <;> rfl), by repeat (first | (with_reducible first | exact HB.out | apply below_alloc | apply pw_below_drewN | apply below_drew1) | exact HB.out)⟩
                          · rw [if_neg c43] at H
                            exact absurd H (by simp)

/-- THE ONE PURE STATEMENT of hornbooklaw03_LexSkips: yours. -/
def hornbooklaw03_LexSkips.Pure : Prop := ∀ (a0 : ByteArray) (a1 : Int) (a2 : ByteArray), a0.size ≤ 140737488351232 → (Lit.int .i64 a1).wf = true → a2.size ≤ 140737488351232 → ∃ k, hornbooklaw03_LexSkips.f k a0 a1 a2 = some true
theorem hornbooklaw03_LexSkips.walk (P : hornbooklaw03_LexSkips.Pure) (a0 : ByteArray) (a1 : Int) (a2 : ByteArray) (w : World) (w0 : a0.size ≤ 140737488351232) (w1 : (Lit.int .i64 a1).wf = true) (w2 : a2.size ≤ 140737488351232)(hG : GW w) :
    Calls Tryd.prog 4 #[.string a0, .int .i64 a1, .string a2] w fun e w' => e = .returned (.bool true) ∧ Below w.heap.size w w' := by
  obtain ⟨k, h⟩ := P a0 a1 a2 w0 w1 w2
  refine (hornbooklaw03_LexSkips.calls k a0 a1 a2 true w hG h).mono ?_
  rintro e w' ⟨rfl, hd⟩
  exact ⟨rfl, hd⟩

end Go.Proofs.YtaolcbklpdodaaaDoor.M
