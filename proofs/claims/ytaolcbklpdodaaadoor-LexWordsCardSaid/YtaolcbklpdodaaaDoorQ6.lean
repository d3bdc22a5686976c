/- Laid by this session's program hbprint.py out of the translation: the function hornbook/hornbooklaw03.LexWords and its contract. -/
import Derived.Test.YtaolcbklpdodaaaDoorQK
import Derived.Test.YtaolcbklpdodaaaDoorG
import Derived.Test.YtaolcbklpdodaaaDoorQ11
import Derived.Test.YtaolcbklpdodaaaDoorQ12
import Derived.Test.YtaolcbklpdodaaaDoorQ9
namespace Go.Proofs.YtaolcbklpdodaaaDoor.M
open Go.RowKit Go.Proofs.YtaolcbklpdodaaaDoorW.PrintWords Go.Proofs.YtaolcbklpdodaaaDoorW.PrintLast Go.Proofs.YtaolcbklpdodaaaDoorW.PrintMore
attribute [local go_sem] max2_int min2_int max_two min_two max_three min_three max_four min_four
set_option linter.unusedVariables false
set_option linter.unusedSimpArgs false

/-! ### hornbooklaw03_LexWords: function 6 -/
mutual
def hornbooklaw03_LexWords.j0 : Nat → ByteArray → Bool → ByteArray → Int → Int → Bool → Option (Bool)
  | 0, _, _, _, _, _, _ => none
  | k + 1, x0, x5, x6, x7, x8, x61 => if x61 = true then (some false) else (hornbooklaw03_LexWords.l0 k x0 x5 x6 x7 x8 0)
def hornbooklaw03_LexWords.l0 : Nat → ByteArray → Bool → ByteArray → Int → Int → Int → Option (Bool)
  | 0, _, _, _, _, _, _ => none
  | k + 1, x0, x5, x6, x7, x8, x9 => if x9 < (x6.size : Int) then (if 0 ≤ x9 then ((lex_Class.f k (wrap64 (bt x6 x9))).bind fun t153 => (if t153 = 0 then ((lex_Word.f k x0 (wrap64 (x8 + x9))).bind fun bt154 => (if bt154.2 = x7 then (if x9 ≤ (x6.size : Int) then (if bt154.1.toList = (x6.extract (x9 : Int).toNat x6.size).toList then (hornbooklaw03_LexWords.l0 k x0 x5 x6 x7 x8 (wrap64 (x9 + 1))) else (some false)) else (none)) else (some false))) else (some false))) else (none)) else (some x5)
end
def hornbooklaw03_LexWords.f (k : Nat) (a0 : ByteArray) (a1 : Int) : Option (Bool) := (hornbooklaw03_awake.f k).bind fun t149 => (if (a0.size : Int) > 500 then (some t149) else ((lex_Word.f k a0 a1).bind fun bt150 => (if bt150.2 = (wrap64 ((mx 0 (mn a1 (a0.size : Int))) + (bt150.1.size : Int))) then (if bt150.2 > (a0.size : Int) then (hornbooklaw03_LexWords.j0 k a0 t149 bt150.1 bt150.2 (mx 0 (mn a1 (a0.size : Int))) true) else (if 0 ≤ (mx 0 (mn a1 (a0.size : Int))) then (if (mx 0 (mn a1 (a0.size : Int))) ≤ bt150.2 then (if bt150.2 ≤ (a0.size : Int) then (if (a0.extract ((mx 0 (mn a1 (a0.size : Int))) : Int).toNat (bt150.2 : Int).toNat).toList = bt150.1.toList then (if bt150.2 < (a0.size : Int) then (if 0 ≤ bt150.2 then ((lex_Class.f k (wrap64 (bt a0 bt150.2))).bind fun t152 => (hornbooklaw03_LexWords.j0 k a0 t149 bt150.1 bt150.2 (mx 0 (mn a1 (a0.size : Int))) (t152 == 0))) else (none)) else (hornbooklaw03_LexWords.j0 k a0 t149 bt150.1 bt150.2 (mx 0 (mn a1 (a0.size : Int))) false)) else (hornbooklaw03_LexWords.j0 k a0 t149 bt150.1 bt150.2 (mx 0 (mn a1 (a0.size : Int))) true)) else (none)) else (none)) else (none))) else (hornbooklaw03_LexWords.j0 k a0 t149 bt150.1 bt150.2 (mx 0 (mn a1 (a0.size : Int))) true))))
theorem hornbooklaw03_LexWords.mono_l : ∀ k, (∀ y0 y1 y2 y3 y4 y5, LeO (hornbooklaw03_LexWords.j0 k y0 y1 y2 y3 y4 y5) (hornbooklaw03_LexWords.j0 (k + 1) y0 y1 y2 y3 y4 y5)) ∧ (∀ y0 y1 y2 y3 y4 y5, LeO (hornbooklaw03_LexWords.l0 k y0 y1 y2 y3 y4 y5) (hornbooklaw03_LexWords.l0 (k + 1) y0 y1 y2 y3 y4 y5))
  | 0 => ⟨fun _ _ _ _ _ _ r h => by simp [hornbooklaw03_LexWords.j0] at h, fun _ _ _ _ _ _ r h => by simp [hornbooklaw03_LexWords.l0] at h⟩
  | k + 1 => by
    obtain ⟨ih0, ih1⟩ := hornbooklaw03_LexWords.mono_l k
    refine ⟨?_, ?_⟩
    · intro y0 y1 y2 y3 y4 y5
      unfold hornbooklaw03_LexWords.j0
      repeat' first
      | (with_reducible exact ih0 _ _ _ _ _ _)
      | (with_reducible exact ih1 _ _ _ _ _ _)
      | (with_reducible exact hornbooklaw03_awake.mono _)
      | (with_reducible exact lex_Class.mono _ _)
      | (with_reducible exact lex_Word.mono _ _ _)
      | (with_reducible exact LeO.refl _)
      | (with_reducible exact LeO.none _)
      | (with_reducible refine LeO.ite ?_ ?_)
      | (with_reducible refine LeO.bind ?_ (fun _ => ?_))
      | exact ih0 _ _ _ _ _ _
      | exact ih1 _ _ _ _ _ _
      | exact hornbooklaw03_awake.mono _
      | exact lex_Class.mono _ _
      | exact lex_Word.mono _ _ _
      | exact LeO.none _
      | refine LeO.ite ?_ ?_
      | refine LeO.bind ?_ (fun _ => ?_)
    · intro y0 y1 y2 y3 y4 y5
      unfold hornbooklaw03_LexWords.l0
      repeat' first
      | (with_reducible exact ih0 _ _ _ _ _ _)
      | (with_reducible exact ih1 _ _ _ _ _ _)
      | (with_reducible exact hornbooklaw03_awake.mono _)
      | (with_reducible exact lex_Class.mono _ _)
      | (with_reducible exact lex_Word.mono _ _ _)
      | (with_reducible exact LeO.refl _)
      | (with_reducible exact LeO.none _)
      | (with_reducible refine LeO.ite ?_ ?_)
      | (with_reducible refine LeO.bind ?_ (fun _ => ?_))
      | exact ih0 _ _ _ _ _ _
      | exact ih1 _ _ _ _ _ _
      | exact hornbooklaw03_awake.mono _
      | exact lex_Class.mono _ _
      | exact lex_Word.mono _ _ _
      | exact LeO.none _
      | refine LeO.ite ?_ ?_
      | refine LeO.bind ?_ (fun _ => ?_)
theorem hornbooklaw03_LexWords.mono : ∀ a0 a1 k, LeO (hornbooklaw03_LexWords.f k a0 a1) (hornbooklaw03_LexWords.f (k + 1) a0 a1) := by
  intro a0 a1 k
  obtain ⟨ih0, ih1⟩ := hornbooklaw03_LexWords.mono_l k
  unfold hornbooklaw03_LexWords.f
  repeat' first
      | (with_reducible exact ih0 _ _ _ _ _ _)
      | (with_reducible exact ih1 _ _ _ _ _ _)
      | (with_reducible exact hornbooklaw03_awake.mono _)
      | (with_reducible exact lex_Class.mono _ _)
      | (with_reducible exact lex_Word.mono _ _ _)
      | (with_reducible exact LeO.refl _)
      | (with_reducible exact LeO.none _)
      | (with_reducible refine LeO.ite ?_ ?_)
      | (with_reducible refine LeO.bind ?_ (fun _ => ?_))
      | exact ih0 _ _ _ _ _ _
      | exact ih1 _ _ _ _ _ _
      | exact hornbooklaw03_awake.mono _
      | exact lex_Class.mono _ _
      | exact lex_Word.mono _ _ _
      | exact LeO.none _
      | refine LeO.ite ?_ ?_
      | refine LeO.bind ?_ (fun _ => ?_)
set_option maxHeartbeats 8000000 in
set_option maxRecDepth 100000 in
theorem hornbooklaw03_LexWords.calls (k : Nat) (a0 : ByteArray) (a1 : Int) (r : Bool) (w : World) (hG : GW w) (h : hornbooklaw03_LexWords.f k a0 a1 = some r) :
    Calls Tryd.prog 6 #[.string a0, .int .i64 a1] w fun e w' => e = .returned (.bool r) ∧ Below w.heap.size w w' := by
  have HG := Aside0.mk hG
  clear hG
  have HB := Aside0.mk (Below.refl w.heap.size w)
  have H : ((hornbooklaw03_awake.f k).bind fun t149 => (if (a0.size : Int) > 500 then (some t149) else ((lex_Word.f k a0 a1).bind fun bt150 => (if bt150.2 = (wrap64 ((mx 0 (mn a1 (a0.size : Int))) + (bt150.1.size : Int))) then (if bt150.2 > (a0.size : Int) then (hornbooklaw03_LexWords.j0 k a0 t149 bt150.1 bt150.2 (mx 0 (mn a1 (a0.size : Int))) true) else (if 0 ≤ (mx 0 (mn a1 (a0.size : Int))) then (if (mx 0 (mn a1 (a0.size : Int))) ≤ bt150.2 then (if bt150.2 ≤ (a0.size : Int) then (if (a0.extract ((mx 0 (mn a1 (a0.size : Int))) : Int).toNat (bt150.2 : Int).toNat).toList = bt150.1.toList then (if bt150.2 < (a0.size : Int) then (if 0 ≤ bt150.2 then ((lex_Class.f k (wrap64 (bt a0 bt150.2))).bind fun t152 => (hornbooklaw03_LexWords.j0 k a0 t149 bt150.1 bt150.2 (mx 0 (mn a1 (a0.size : Int))) (t152 == 0))) else (none)) else (hornbooklaw03_LexWords.j0 k a0 t149 bt150.1 bt150.2 (mx 0 (mn a1 (a0.size : Int))) false)) else (hornbooklaw03_LexWords.j0 k a0 t149 bt150.1 bt150.2 (mx 0 (mn a1 (a0.size : Int))) true)) else (none)) else (none)) else (none))) else (hornbooklaw03_LexWords.j0 k a0 t149 bt150.1 bt150.2 (mx 0 (mn a1 (a0.size : Int))) true))))) = some r := h
  clear h
  replace H := Option.bind_eq_some_iff.mp H
  obtain ⟨t149, A30, H⟩ := H
  replace H : (if (a0.size : Int) > 500 then (some t149) else ((lex_Word.f k a0 a1).bind fun bt150 => (if bt150.2 = (wrap64 ((mx 0 (mn a1 (a0.size : Int))) + (bt150.1.size : Int))) then (if bt150.2 > (a0.size : Int) then (hornbooklaw03_LexWords.j0 k a0 t149 bt150.1 bt150.2 (mx 0 (mn a1 (a0.size : Int))) true) else (if 0 ≤ (mx 0 (mn a1 (a0.size : Int))) then (if (mx 0 (mn a1 (a0.size : Int))) ≤ bt150.2 then (if bt150.2 ≤ (a0.size : Int) then (if (a0.extract ((mx 0 (mn a1 (a0.size : Int))) : Int).toNat (bt150.2 : Int).toNat).toList = bt150.1.toList then (if bt150.2 < (a0.size : Int) then (if 0 ≤ bt150.2 then ((lex_Class.f k (wrap64 (bt a0 bt150.2))).bind fun t152 => (hornbooklaw03_LexWords.j0 k a0 t149 bt150.1 bt150.2 (mx 0 (mn a1 (a0.size : Int))) (t152 == 0))) else (none)) else (hornbooklaw03_LexWords.j0 k a0 t149 bt150.1 bt150.2 (mx 0 (mn a1 (a0.size : Int))) false)) else (hornbooklaw03_LexWords.j0 k a0 t149 bt150.1 bt150.2 (mx 0 (mn a1 (a0.size : Int))) true)) else (none)) else (none)) else (none))) else (hornbooklaw03_LexWords.j0 k a0 t149 bt150.1 bt150.2 (mx 0 (mn a1 (a0.size : Int))) true)))) = some r := H
  have A3 := Aside0.mk A30
  clear A30
  by_cases c4 : (a0.size : Int) > 500
  · rw [if_pos c4] at H
    have c4b0 : decide (500 < (a0.size : Int)) = true := decide_eq_true c4
    have c4b1 : decide (500 < a0.size) = true := decide_eq_true (by omega)
    clear c4
    obtain rfl := Option.some.inj H
    go_enter Tryd.func6, Tryd.ntmps6
    go_wp2_with (first | ((with_reducible refine gate_callee (f := 9) rfl ?_); refine goesL_ (some 12) rfl rfl Tryd.func9 (by kernel_rfl) rfl #[] rfl (by (try simp only [List.map_toArray, List.map_cons, List.map_nil]); first | done | rfl | (simp only [List.length_drop, List.length_take]; rfl)) ?_; (with_reducible refine (hornbooklaw03_awake.calls k  t149 _ ?side1 A3.out).mono ?_); (case side1 => exact GW.below (by repeat (first | (with_reducible first | exact HB.out | apply below_alloc | apply pw_below_drewN | apply below_drew1) | exact HB.out)) HG.out); rintro e w5 ⟨rfl, hb⟩; refine ⟨_, rfl, ?_⟩; have n0_ := Aside0.mk (below_step (by repeat (first | (with_reducible first | exact HB.out | apply below_alloc | apply pw_below_drewN | apply below_drew1) | exact HB.out)) hb); clear HB; have HB := n0_; clear n0_; (try clear hb); (try clear hb2); (try clear hk); (try clear hi)))
    go_ret
    exact ⟨by first | rfl | (simp [errW_none, errW_some] <;> rfl) | (simp [*, errW_none, errW_some] <;> rfl), by repeat (first | (with_reducible first | exact HB.out | apply below_alloc | apply pw_below_drewN | apply below_drew1) | exact HB.out)⟩
  · rw [if_neg c4] at H
    have c4b0 : decide (500 < (a0.size : Int)) = false := decide_eq_false c4
    have c4b1 : decide (500 < a0.size) = false := decide_eq_false (by omega)
    clear c4
    replace H := Option.bind_eq_some_iff.mp H
    obtain ⟨⟨t150, t151⟩, A60, H⟩ := H
    replace H : (if t151 = (wrap64 ((mx 0 (mn a1 (a0.size : Int))) + (t150.size : Int))) then (if t151 > (a0.size : Int) then (hornbooklaw03_LexWords.j0 k a0 t149 t150 t151 (mx 0 (mn a1 (a0.size : Int))) true) else (if 0 ≤ (mx 0 (mn a1 (a0.size : Int))) then (if (mx 0 (mn a1 (a0.size : Int))) ≤ t151 then (if t151 ≤ (a0.size : Int) then (if (a0.extract ((mx 0 (mn a1 (a0.size : Int))) : Int).toNat (t151 : Int).toNat).toList = t150.toList then (if t151 < (a0.size : Int) then (if 0 ≤ t151 then ((lex_Class.f k (wrap64 (bt a0 t151))).bind fun t152 => (hornbooklaw03_LexWords.j0 k a0 t149 t150 t151 (mx 0 (mn a1 (a0.size : Int))) (t152 == 0))) else (none)) else (hornbooklaw03_LexWords.j0 k a0 t149 t150 t151 (mx 0 (mn a1 (a0.size : Int))) false)) else (hornbooklaw03_LexWords.j0 k a0 t149 t150 t151 (mx 0 (mn a1 (a0.size : Int))) true)) else (none)) else (none)) else (none))) else (hornbooklaw03_LexWords.j0 k a0 t149 t150 t151 (mx 0 (mn a1 (a0.size : Int))) true)) = some r := H
    have A6 := Aside0.mk A60
    clear A60
    obtain ⟨ji7, hji7⟩ : ∃ j_ : Int, (mn a1 (a0.size : Int)) = j_ := ⟨_, rfl⟩
    replace H : (if t151 = (wrap64 ((mx 0 (ji7)) + (t150.size : Int))) then (if t151 > (a0.size : Int) then (hornbooklaw03_LexWords.j0 k a0 t149 t150 t151 (mx 0 (ji7)) true) else (if 0 ≤ (mx 0 (ji7)) then (if (mx 0 (ji7)) ≤ t151 then (if t151 ≤ (a0.size : Int) then (if (a0.extract ((mx 0 (ji7)) : Int).toNat (t151 : Int).toNat).toList = t150.toList then (if t151 < (a0.size : Int) then (if 0 ≤ t151 then ((lex_Class.f k (wrap64 (bt a0 t151))).bind fun t152 => (hornbooklaw03_LexWords.j0 k a0 t149 t150 t151 (mx 0 (ji7)) (t152 == 0))) else (none)) else (hornbooklaw03_LexWords.j0 k a0 t149 t150 t151 (mx 0 (ji7)) false)) else (hornbooklaw03_LexWords.j0 k a0 t149 t150 t151 (mx 0 (ji7)) true)) else (none)) else (none)) else (none))) else (hornbooklaw03_LexWords.j0 k a0 t149 t150 t151 (mx 0 (ji7)) true)) = some r := by first | (rw [hji7] at H; exact H) | (simp only [hji7] at H ⊢; exact H)
    (try rw [hji7] at A3)
    (try rw [hji7] at A6)
    have hji7_ : (if (a0.size : Int) < a1 then (a0.size : Int) else a1) = ji7 := hji7
    obtain ⟨ji8, hji8⟩ : ∃ j_ : Int, (mx 0 (ji7)) = j_ := ⟨_, rfl⟩
    replace H : (if t151 = (wrap64 ((ji8) + (t150.size : Int))) then (if t151 > (a0.size : Int) then (hornbooklaw03_LexWords.j0 k a0 t149 t150 t151 ji8 true) else (if 0 ≤ (ji8) then (if (ji8) ≤ t151 then (if t151 ≤ (a0.size : Int) then (if (a0.extract ((ji8) : Int).toNat (t151 : Int).toNat).toList = t150.toList then (if t151 < (a0.size : Int) then (if 0 ≤ t151 then ((lex_Class.f k (wrap64 (bt a0 t151))).bind fun t152 => (hornbooklaw03_LexWords.j0 k a0 t149 t150 t151 ji8 (t152 == 0))) else (none)) else (hornbooklaw03_LexWords.j0 k a0 t149 t150 t151 ji8 false)) else (hornbooklaw03_LexWords.j0 k a0 t149 t150 t151 ji8 true)) else (none)) else (none)) else (none))) else (hornbooklaw03_LexWords.j0 k a0 t149 t150 t151 ji8 true)) = some r := by first | (rw [hji8] at H; exact H) | (simp only [hji8] at H ⊢; exact H)
    (try rw [hji8] at A3)
    (try rw [hji8] at A6)
    have hji8_ : (if 0 < (ji7) then (ji7) else 0) = ji8 := hji8
    have HC9 := Aside0.mk H
    clear H
    go_enter Tryd.func6, Tryd.ntmps6
    go_upto_region 6 with (first | ((with_reducible refine gate_callee (f := 9) rfl ?_); refine goesL_ (some 12) rfl rfl Tryd.func9 (by kernel_rfl) rfl #[] rfl (by (try simp only [List.map_toArray, List.map_cons, List.map_nil]); first | done | rfl | (simp only [List.length_drop, List.length_take]; rfl)) ?_; (with_reducible refine (hornbooklaw03_awake.calls k  t149 _ ?side1 A3.out).mono ?_); (case side1 => exact GW.below (by repeat (first | (with_reducible first | exact HB.out | apply below_alloc | apply pw_below_drewN | apply below_drew1) | exact HB.out)) HG.out); rintro e w10 ⟨rfl, hb⟩; refine ⟨_, rfl, ?_⟩; have n0_ := Aside0.mk (below_step (by repeat (first | (with_reducible first | exact HB.out | apply below_alloc | apply pw_below_drewN | apply below_drew1) | exact HB.out)) hb); clear HB; have HB := n0_; clear n0_; (try clear hb); (try clear hb2); (try clear hk); (try clear hi)) | ((with_reducible refine gate_callee (f := 11) rfl ?_); refine goesL_ (some 20) rfl rfl Tryd.func11 (by kernel_rfl) rfl #[.string a0, .int .i64 a1] rfl (by (try simp only [List.map_toArray, List.map_cons, List.map_nil]); first | done | rfl | (simp only [List.length_drop, List.length_take]; rfl)) ?_; (with_reducible refine (lex_Word.calls k a0 a1 t150 t151 _ A6.out).mono ?_); rintro e w11 ⟨rfl, hb⟩; refine ⟨_, rfl, ?_⟩; have n0_ := Aside0.mk (below_step (by repeat (first | (with_reducible first | exact HB.out | apply below_alloc | apply pw_below_drewN | apply below_drew1) | exact HB.out)) hb); clear HB; have HB := n0_; clear n0_; (try clear hb); (try clear hb2); (try clear hk); (try clear hi)))
    (try simp only [Act.put, List.setIfInBounds_toArray, List.set_cons_zero, List.set_cons_succ])
    go_cut [61] (fun v61 wc => ∃ (kq : Nat) (x61_8 : Bool), v61 = .bool x61_8 ∧ Aside0 (hornbooklaw03_LexWords.j0 kq a0 t149 t150 t151 ji8 x61_8 = some r) ∧ Aside0 (kq ≤ k) ∧ Aside0 (Below w.heap.size w wc))
    case first =>
      have H := HC9.out
      clear HC9
      by_cases c12 : t151 = (wrap64 ((ji8) + (t150.size : Int)))
      · rw [if_pos c12] at H
        have c12b0 : (t151 == (wrap64 ((ji8) + (t150.size : Int)))) = true := beq_iff_eq.mpr c12
        have c12b1 : (t151 != (wrap64 ((ji8) + (t150.size : Int)))) = false := bne_eq_false_iff_eq.mpr c12
        clear c12
        (first | rw [c12b0] | (simp only [i64_w, i32_w]; rw [c12b0]) | skip)
        by_cases c13 : t151 > (a0.size : Int)
        · rw [if_pos c13] at H
          have c13b0 : decide ((a0.size : Int) < t151) = true := decide_eq_true c13
          clear c13
          have H' := Aside0.mk H
          clear H
          go_wp2
          go_meet
          case rel => exact ⟨_, (true), (by first | rfl | (simp; done) | (simp [*]; done)), H', ⟨by first | omega | exact Nat.le_refl _⟩, ⟨by repeat (first | (with_reducible first | exact HB.out | apply below_alloc | apply pw_below_drewN | apply below_drew1) | exact HB.out)⟩⟩
        · rw [if_neg c13] at H
          have c13b0 : decide ((a0.size : Int) < t151) = false := decide_eq_false c13
          clear c13
          by_cases c14 : 0 ≤ (ji8)
          · rw [if_pos c14] at H
            have c14b0 := eq_true c14
            have c14b1 : decide (0 ≤ (ji8)) = true := decide_eq_true c14
            clear c14
            by_cases c15 : (ji8) ≤ t151
            · rw [if_pos c15] at H
              have c15b0 := eq_true c15
              have c15b1 : decide ((ji8) ≤ t151) = true := decide_eq_true c15
              clear c15
              by_cases c16 : t151 ≤ (a0.size : Int)
              · rw [if_pos c16] at H
                have c16b0 := eq_true c16
                have c16b1 : decide (t151 ≤ (a0.size : Int)) = true := decide_eq_true c16
                clear c16
                by_cases c17 : (a0.extract ((ji8) : Int).toNat (t151 : Int).toNat).toList = t150.toList
                · rw [if_pos c17] at H
                  have c17b0 : ((a0.extract ((ji8) : Int).toNat (t151 : Int).toNat).toList == t150.toList) = true := beq_iff_eq.mpr c17
                  have c17b1 : ((a0.extract ((ji8) : Int).toNat (t151 : Int).toNat).toList != t150.toList) = false := bne_eq_false_iff_eq.mpr c17
                  clear c17
                  by_cases c18 : t151 < (a0.size : Int)
                  · rw [if_pos c18] at H
                    have c18b0 : decide (t151 < (a0.size : Int)) = true := decide_eq_true c18
                    clear c18
                    by_cases c19 : 0 ≤ t151
                    · rw [if_pos c19] at H
                      have c19b0 : decide (0 ≤ t151) = true := decide_eq_true c19
                      clear c19
                      replace H := Option.bind_eq_some_iff.mp H
                      obtain ⟨t152, A210, H⟩ := H
                      replace H : (hornbooklaw03_LexWords.j0 k a0 t149 t150 t151 ji8 (t152 == 0)) = some r := H
                      have A21 := Aside0.mk A210
                      clear A210
                      have H' := Aside0.mk H
                      clear H
                      have p20 : 0 ≤ (t151 : Int) := of_decide_eq_true (by first | (with_reducible assumption) | assumption)
                      have q20 : t151 < (a0.size : Int) := of_decide_eq_true (by first | (with_reducible assumption) | assumption)
                      have hx20 := bt_at a0 t151
                      replace p20 := eq_true p20
                      replace q20 := eq_true q20
                      go_wp2_with (first | (go_at_call 12; (with_reducible refine (lex_Class.calls k (wrap64 (bt a0 t151)) t152 _ A21.out).mono ?_); rintro e w22 ⟨rfl, hb⟩; have n0_ := Aside0.mk (below_step (by repeat (first | (with_reducible first | exact HB.out | apply below_alloc | apply pw_below_drewN | apply below_drew1) | exact HB.out)) hb); clear HB; have HB := n0_; clear n0_; (try clear hb); (try clear hb2); (try clear hk); (try clear hi)))
                      go_meet
                      case rel => exact ⟨_, ((t152 == 0)), (by first | rfl | (simp; done) | (simp [*]; done)), H', ⟨by first | omega | exact Nat.le_refl _⟩, ⟨by repeat (first | (with_reducible first | exact HB.out | apply below_alloc | apply pw_below_drewN | apply below_drew1) | exact HB.out)⟩⟩
                    · rw [if_neg c19] at H
                      exact absurd H (by simp)
                  · rw [if_neg c18] at H
                    have c18b0 : decide (t151 < (a0.size : Int)) = false := decide_eq_false c18
                    clear c18
                    have H' := Aside0.mk H
                    clear H
                    go_wp2
                    go_meet
                    case rel => exact ⟨_, (false), (by first | rfl | (simp; done) | (simp [*]; done)), H', ⟨by first | omega | exact Nat.le_refl _⟩, ⟨by repeat (first | (with_reducible first | exact HB.out | apply below_alloc | apply pw_below_drewN | apply below_drew1) | exact HB.out)⟩⟩
                · rw [if_neg c17] at H
                  have c17b0 : ((a0.extract ((ji8) : Int).toNat (t151 : Int).toNat).toList == t150.toList) = false := beq_eq_false_iff_ne.mpr c17
                  have c17b1 : ((a0.extract ((ji8) : Int).toNat (t151 : Int).toNat).toList != t150.toList) = true := bne_iff_ne.mpr c17
                  have H' := Aside0.mk H
                  clear H
                  go_wp2
                  go_meet
                  case rel => exact ⟨_, (true), (by first | rfl | (simp; done) | (simp [*]; done)), H', ⟨by first | omega | exact Nat.le_refl _⟩, ⟨by repeat (first | (with_reducible first | exact HB.out | apply below_alloc | apply pw_below_drewN | apply below_drew1) | exact HB.out)⟩⟩
              · rw [if_neg c16] at H
                exact absurd H (by simp)
            · rw [if_neg c15] at H
              exact absurd H (by simp)
          · rw [if_neg c14] at H
            exact absurd H (by simp)
      · rw [if_neg c12] at H
        have c12b0 : (t151 == (wrap64 ((ji8) + (t150.size : Int)))) = false := beq_eq_false_iff_ne.mpr c12
        have c12b1 : (t151 != (wrap64 ((ji8) + (t150.size : Int)))) = true := bne_iff_ne.mpr c12
        (first | rw [c12b0] | (simp only [i64_w, i32_w]; rw [c12b0]) | skip)
        have H' := Aside0.mk H
        clear H
        go_wp2
        go_meet
        case rel => exact ⟨_, (true), (by first | rfl | (simp; done) | (simp [*]; done)), H', ⟨by first | omega | exact Nat.le_refl _⟩, ⟨by repeat (first | (with_reducible first | exact HB.out | apply below_alloc | apply pw_below_drewN | apply below_drew1) | exact HB.out)⟩⟩
    case rest =>
      clear HC9
      try clear c1
      try clear p2
      try clear q2
      try clear hx2
      try clear c4
      try clear c4b0
      try clear c4b1
      try clear c6
      try clear p6
      try clear c9
      try clear c11
      try clear c12
      try clear c12b0
      try clear c12b1
      try clear c13
      try clear c13b0
      try clear c14
      try clear c14b0
      try clear c14b1
      try clear c15
      try clear c15b0
      try clear c15b1
      try clear c16
      try clear c16b0
      try clear c16b1
      try clear c17
      try clear c17b0
      try clear c17b1
      try clear c18
      try clear c18b0
      try clear c19
      try clear c19b0
      try clear p20
      try clear q20
      try clear hx20
      try clear p20
      try clear q20
      obtain ⟨kq, x61_8, rfl, HA, HJ8, HB⟩ := hcut
      cases kq with
      | zero => exact absurd HA.out (by simp [hornbooklaw03_LexWords.j0])
      | succ kj8 =>
        have H := HA.out
        clear HA
        simp only [hornbooklaw03_LexWords.j0] at H
        by_cases c23 : x61_8 = true
        · subst c23
          have H1 : (some false) = some r := by rw [if_pos rfl] at H; exact H
          clear H
          have H := H1
          clear H1
          obtain rfl := Option.some.inj H
          go_wp2
          go_ret
          exact ⟨by first | rfl | (simp [errW_none, errW_some] <;> rfl) | (simp only [← hji7, ← hji8]; first | rfl | (simp [errW_none, errW_some] <;> rfl)) | (simp [*, errW_none, errW_some] <;> rfl), by repeat (first | (with_reducible first | exact HB.out | apply below_alloc | apply pw_below_drewN | apply below_drew1) | exact HB.out)⟩
        · replace c23 := Bool.eq_false_iff.mpr c23
          subst c23
          have H1 : (hornbooklaw03_LexWords.l0 kj8 a0 t149 t150 t151 ji8 0) = some r := by rw [if_neg (show ¬ (false = true) by decide)] at H; exact H
          clear H
          have H := H1
          clear H1
          have H' := Aside0.mk H
          clear H
          go_wp2
          go_loopg [9] kj8 (fun kq v9 w' => ∃ (x9_2 : Int), v9 = .int .i64 x9_2 ∧ Aside0 (hornbooklaw03_LexWords.l0 kq a0 t149 t150 t151 ji8 x9_2 = some r) ∧ Aside0 (kq ≤ kj8) ∧ Aside0 (Below w.heap.size w w'))
          case atStart => exact ⟨(0), (by first | rfl | (simp; done) | (simp [*]; done)), H', ⟨Nat.le_refl _⟩, ⟨by repeat (first | (with_reducible first | exact HB.out | apply below_alloc | apply pw_below_drewN | apply below_drew1) | exact HB.out)⟩⟩
          case round =>
            clear H'
            try clear c1
            try clear c2
            try clear p2
            try clear q2
            try clear hx2
            try clear c4
            try clear c4b0
            try clear c4b1
            try clear c6
            try clear p6
            try clear c9
            try clear c11
            try clear c12
            try clear c12b0
            try clear c12b1
            try clear c13
            try clear c13b0
            try clear c14
            try clear c14b0
            try clear c14b1
            try clear c15
            try clear c15b0
            try clear c15b1
            try clear c16
            try clear c16b0
            try clear c16b1
            try clear c17
            try clear c17b0
            try clear c17b1
            try clear c18
            try clear c18b0
            try clear c19
            try clear c19b0
            try clear p20
            try clear q20
            try clear hx20
            try clear c23
            try clear p2
            try clear p20
            try clear p6
            try clear q2
            try clear q20
            obtain ⟨x9_2, rfl, HA, HK2, HB⟩ := hrel
            cases gk with
            | zero => exact absurd HA.out (by simp [hornbooklaw03_LexWords.l0])
            | succ k2 =>
              have H := HA.out
              clear HA
              simp only [hornbooklaw03_LexWords.l0] at H
              by_cases c24 : x9_2 < (t150.size : Int)
              · rw [if_pos c24] at H
                have c24b0 : decide (x9_2 < (t150.size : Int)) = true := decide_eq_true c24
                clear c24
                by_cases c25 : 0 ≤ x9_2
                · rw [if_pos c25] at H
                  have c25b0 : decide (0 ≤ x9_2) = true := decide_eq_true c25
                  clear c25
                  replace H := Option.bind_eq_some_iff.mp H
                  obtain ⟨t153, A270, H⟩ := H
                  replace H : (if t153 = 0 then ((lex_Word.f k2 a0 (wrap64 (ji8 + x9_2))).bind fun bt154 => (if bt154.2 = t151 then (if x9_2 ≤ (t150.size : Int) then (if bt154.1.toList = (t150.extract (x9_2 : Int).toNat t150.size).toList then (hornbooklaw03_LexWords.l0 k2 a0 t149 t150 t151 ji8 (wrap64 (x9_2 + 1))) else (some false)) else (none)) else (some false))) else (some false)) = some r := H
                  have A27 := Aside0.mk A270
                  clear A270
                  by_cases c28 : t153 = 0
                  · rw [if_pos c28] at H
                    have c28b0 : (t153 == 0) = true := beq_iff_eq.mpr c28
                    have c28b1 : (t153 != 0) = false := bne_eq_false_iff_eq.mpr c28
                    clear c28
                    replace H := Option.bind_eq_some_iff.mp H
                    obtain ⟨⟨t154, t155⟩, A290, H⟩ := H
                    replace H : (if t155 = t151 then (if x9_2 ≤ (t150.size : Int) then (if t154.toList = (t150.extract (x9_2 : Int).toNat t150.size).toList then (hornbooklaw03_LexWords.l0 k2 a0 t149 t150 t151 ji8 (wrap64 (x9_2 + 1))) else (some false)) else (none)) else (some false)) = some r := H
                    have A29 := Aside0.mk A290
                    clear A290
                    by_cases c30 : t155 = t151
                    · rw [if_pos c30] at H
                      have c30b0 : (t155 == t151) = true := beq_iff_eq.mpr c30
                      have c30b1 : (t155 != t151) = false := bne_eq_false_iff_eq.mpr c30
                      clear c30
                      have c31b0 := eq_true (of_decide_eq_true (by first | (with_reducible assumption) | assumption) : 0 ≤ x9_2)
                      by_cases c32 : x9_2 ≤ (t150.size : Int)
                      · rw [if_pos c32] at H
                        have c32b0 := eq_true c32
                        have c32b1 : decide (x9_2 ≤ (t150.size : Int)) = true := decide_eq_true c32
                        clear c32
                        by_cases c33 : t154.toList = (t150.extract (x9_2 : Int).toNat t150.size).toList
                        · rw [if_pos c33] at H
                          have c33b0 : (t154.toList == (t150.extract (x9_2 : Int).toNat t150.size).toList) = true := beq_iff_eq.mpr c33
                          have c33b1 : (t154.toList != (t150.extract (x9_2 : Int).toNat t150.size).toList) = false := bne_eq_false_iff_eq.mpr c33
                          clear c33
                          have H' := Aside0.mk H
                          clear H
                          have p26 : 0 ≤ (x9_2 : Int) := of_decide_eq_true (by first | (with_reducible assumption) | assumption)
                          have q26 : x9_2 < (t150.size : Int) := of_decide_eq_true (by first | (with_reducible assumption) | assumption)
                          have hx26 := bt_at t150 x9_2
                          replace p26 := eq_true p26
                          replace q26 := eq_true q26
                          go_wp2_with (first | ((with_reducible refine gate_callee (f := 12) rfl ?_); refine goesL_ (some 72) rfl rfl Tryd.func12 (by kernel_rfl) rfl #[.int .i64 (wrap64 (bt t150 x9_2))] rfl (by (try simp only [List.map_toArray, List.map_cons, List.map_nil]); first | done | rfl | (simp only [List.length_drop, List.length_take]; rfl)) ?_; (with_reducible refine (lex_Class.calls k2 (wrap64 (bt t150 x9_2)) t153 _ A27.out).mono ?_); rintro e w34 ⟨rfl, hb⟩; refine ⟨_, rfl, ?_⟩; have n0_ := Aside0.mk (below_step (by repeat (first | (with_reducible first | exact HB.out | apply below_alloc | apply pw_below_drewN | apply below_drew1) | exact HB.out)) hb); clear HB; have HB := n0_; clear n0_; (try clear hb); (try clear hb2); (try clear hk); (try clear hi)) | ((with_reducible refine gate_callee (f := 11) rfl ?_); refine goesL_ (some 79) rfl rfl Tryd.func11 (by kernel_rfl) rfl #[.string a0, .int .i64 (wrap64 (ji8 + x9_2))] rfl (by (try simp only [List.map_toArray, List.map_cons, List.map_nil]); first | done | (simp only [hji8]; rfl) | rfl | (simp only [List.length_drop, List.length_take]; rfl)) ?_; (with_reducible refine (lex_Word.calls k2 a0 (wrap64 (ji8 + x9_2)) t154 t155 _ A29.out).mono ?_); rintro e w35 ⟨rfl, hb⟩; refine ⟨_, rfl, ?_⟩; have n0_ := Aside0.mk (below_step (by repeat (first | (with_reducible first | exact HB.out | apply below_alloc | apply pw_below_drewN | apply below_drew1) | exact HB.out)) hb); clear HB; have HB := n0_; clear n0_; (try clear hb); (try clear hb2); (try clear hk); (try clear hi)))
                          go_roundg k2
                          case measure => have := HJ8.out; have := HK2.out; omega
                          case rel => exact ⟨(wrap64 (x9_2 + 1)), (by first | rfl | (simp; done) | (simp [*]; done)), H', ⟨by have := HJ8.out; have := HK2.out; omega⟩, ⟨by repeat (first | (with_reducible first | exact HB.out | apply below_alloc | apply pw_below_drewN | apply below_drew1) | exact HB.out)⟩⟩
                        · rw [if_neg c33] at H
                          have c33b0 : (t154.toList == (t150.extract (x9_2 : Int).toNat t150.size).toList) = false := beq_eq_false_iff_ne.mpr c33
                          have c33b1 : (t154.toList != (t150.extract (x9_2 : Int).toNat t150.size).toList) = true := bne_iff_ne.mpr c33
                          obtain rfl := Option.some.inj H
                          have p26 : 0 ≤ (x9_2 : Int) := of_decide_eq_true (by first | (with_reducible assumption) | assumption)
                          have q26 : x9_2 < (t150.size : Int) := of_decide_eq_true (by first | (with_reducible assumption) | assumption)
                          have hx26 := bt_at t150 x9_2
                          replace p26 := eq_true p26
                          replace q26 := eq_true q26
                          go_wp2_with (first | ((with_reducible refine gate_callee (f := 12) rfl ?_); refine goesL_ (some 72) rfl rfl Tryd.func12 (by kernel_rfl) rfl #[.int .i64 (wrap64 (bt t150 x9_2))] rfl (by (try simp only [List.map_toArray, List.map_cons, List.map_nil]); first | done | rfl | (simp only [List.length_drop, List.length_take]; rfl)) ?_; (with_reducible refine (lex_Class.calls k2 (wrap64 (bt t150 x9_2)) t153 _ A27.out).mono ?_); rintro e w36 ⟨rfl, hb⟩; refine ⟨_, rfl, ?_⟩; have n0_ := Aside0.mk (below_step (by repeat (first | (with_reducible first | exact HB.out | apply below_alloc | apply pw_below_drewN | apply below_drew1) | exact HB.out)) hb); clear HB; have HB := n0_; clear n0_; (try clear hb); (try clear hb2); (try clear hk); (try clear hi)) | ((with_reducible refine gate_callee (f := 11) rfl ?_); refine goesL_ (some 79) rfl rfl Tryd.func11 (by kernel_rfl) rfl #[.string a0, .int .i64 (wrap64 (ji8 + x9_2))] rfl (by (try simp only [List.map_toArray, List.map_cons, List.map_nil]); first | done | (simp only [hji8]; rfl) | rfl | (simp only [List.length_drop, List.length_take]; rfl)) ?_; (with_reducible refine (lex_Word.calls k2 a0 (wrap64 (ji8 + x9_2)) t154 t155 _ A29.out).mono ?_); rintro e w37 ⟨rfl, hb⟩; refine ⟨_, rfl, ?_⟩; have n0_ := Aside0.mk (below_step (by repeat (first | (with_reducible first | exact HB.out | apply below_alloc | apply pw_below_drewN | apply below_drew1) | exact HB.out)) hb); clear HB; have HB := n0_; clear n0_; (try clear hb); (try clear hb2); (try clear hk); (try clear hi)))
                          go_ret
                          exact ⟨by first | rfl | (simp [errW_none, errW_some] <;> rfl) | (simp only [← hji7, ← hji8]; first | rfl | (simp [errW_none, errW_some] <;> rfl)) | (simp [*, errW_none, errW_some] <;> rfl), by repeat (first | (with_reducible first | exact HB.out | apply below_alloc | apply pw_below_drewN | apply below_drew1) | exact HB.out)⟩
                      · rw [if_neg c32] at H
                        exact absurd H (by simp)
                    · rw [if_neg c30] at H
                      have c30b0 : (t155 == t151) = false := beq_eq_false_iff_ne.mpr c30
                      have c30b1 : (t155 != t151) = true := bne_iff_ne.mpr c30
                      obtain rfl := Option.some.inj H
                      have p26 : 0 ≤ (x9_2 : Int) := of_decide_eq_true (by first | (with_reducible assumption) | assumption)
                      have q26 : x9_2 < (t150.size : Int) := of_decide_eq_true (by first | (with_reducible assumption) | assumption)
                      have hx26 := bt_at t150 x9_2
                      replace p26 := eq_true p26
                      replace q26 := eq_true q26
                      go_wp2_with (first | ((with_reducible refine gate_callee (f := 12) rfl ?_); refine goesL_ (some 72) rfl rfl Tryd.func12 (by kernel_rfl) rfl #[.int .i64 (wrap64 (bt t150 x9_2))] rfl (by (try simp only [List.map_toArray, List.map_cons, List.map_nil]); first | done | rfl | (simp only [List.length_drop, List.length_take]; rfl)) ?_; (with_reducible refine (lex_Class.calls k2 (wrap64 (bt t150 x9_2)) t153 _ A27.out).mono ?_); rintro e w38 ⟨rfl, hb⟩; refine ⟨_, rfl, ?_⟩; have n0_ := Aside0.mk (below_step (by repeat (first | (with_reducible first | exact HB.out | apply below_alloc | apply pw_below_drewN | apply below_drew1) | exact HB.out)) hb); clear HB; have HB := n0_; clear n0_; (try clear hb); (try clear hb2); (try clear hk); (try clear hi)) | ((with_reducible refine gate_callee (f := 11) rfl ?_); refine goesL_ (some 79) rfl rfl Tryd.func11 (by kernel_rfl) rfl #[.string a0, .int .i64 (wrap64 (ji8 + x9_2))] rfl (by (try simp only [List.map_toArray, List.map_cons, List.map_nil]); first | done | (simp only [hji8]; rfl) | rfl | (simp only [List.length_drop, List.length_take]; rfl)) ?_; (with_reducible refine (lex_Word.calls k2 a0 (wrap64 (ji8 + x9_2)) t154 t155 _ A29.out).mono ?_); rintro e w39 ⟨rfl, hb⟩; refine ⟨_, rfl, ?_⟩; have n0_ := Aside0.mk (below_step (by repeat (first | (with_reducible first | exact HB.out | apply below_alloc | apply pw_below_drewN | apply below_drew1) | exact HB.out)) hb); clear HB; have HB := n0_; clear n0_; (try clear hb); (try clear hb2); (try clear hk); (try clear hi)))
                      go_ret
                      exact ⟨by first | rfl | (simp [errW_none, errW_some] <;> rfl) | (simp only [← hji7, ← hji8]; first | rfl | (simp [errW_none, errW_some] <;> rfl)) | (simp [*, errW_none, errW_some] <;> rfl), by repeat (first | (with_reducible first | exact HB.out | apply below_alloc | apply pw_below_drewN | apply below_drew1) | exact HB.out)⟩
                  · rw [if_neg c28] at H
                    have c28b0 : (t153 == 0) = false := beq_eq_false_iff_ne.mpr c28
                    have c28b1 : (t153 != 0) = true := bne_iff_ne.mpr c28
                    obtain rfl := Option.some.inj H
                    have p26 : 0 ≤ (x9_2 : Int) := of_decide_eq_true (by first | (with_reducible assumption) | assumption)
                    have q26 : x9_2 < (t150.size : Int) := of_decide_eq_true (by first | (with_reducible assumption) | assumption)
                    have hx26 := bt_at t150 x9_2
                    replace p26 := eq_true p26
                    replace q26 := eq_true q26
                    go_wp2_with (first | ((with_reducible refine gate_callee (f := 12) rfl ?_); refine goesL_ (some 72) rfl rfl Tryd.func12 (by kernel_rfl) rfl #[.int .i64 (wrap64 (bt t150 x9_2))] rfl (by (try simp only [List.map_toArray, List.map_cons, List.map_nil]); first | done | rfl | (simp only [List.length_drop, List.length_take]; rfl)) ?_; (with_reducible refine (lex_Class.calls k2 (wrap64 (bt t150 x9_2)) t153 _ A27.out).mono ?_); rintro e w40 ⟨rfl, hb⟩; refine ⟨_, rfl, ?_⟩; have n0_ := Aside0.mk (below_step (by repeat (first | (with_reducible first | exact HB.out | apply below_alloc | apply pw_below_drewN | apply below_drew1) | exact HB.out)) hb); clear HB; have HB := n0_; clear n0_; (try clear hb); (try clear hb2); (try clear hk); (try clear hi)))
                    go_ret
                    exact ⟨by first | rfl | (simp [errW_none, errW_some] <;> rfl) | (simp only [← hji7, ← hji8]; first | rfl | (simp [errW_none, errW_some] <;> rfl)) | (simp [*, errW_none, errW_some] <;> rfl), by repeat (first | (with_reducible first | exact HB.out | apply below_alloc | apply pw_below_drewN | apply below_drew1) | exact HB.out)⟩
                · rw [if_neg c25] at H
                  exact absurd H (by simp)
              · rw [if_neg c24] at H
                have c24b0 : decide (x9_2 < (t150.size : Int)) = false := decide_eq_false c24
                clear c24
                obtain rfl := Option.some.inj H
                go_wp2
                go_ret
                exact ⟨by first | rfl | (simp [errW_none, errW_some] <;> rfl) | (simp only [← hji7, ← hji8]; first | rfl | (simp [errW_none, errW_some] <;> rfl)) | (simp [*, errW_none, errW_some] <;> rfl), by repeat (first | (with_reducible first | exact HB.out | apply below_alloc | apply pw_below_drewN | apply below_drew1) | exact HB.out)⟩

/-- THE ONE PURE STATEMENT of hornbooklaw03_LexWords: yours. -/
def hornbooklaw03_LexWords.Pure : Prop := ∀ (a0 : ByteArray) (a1 : Int), a0.size ≤ 140737488351232 → (Lit.int .i64 a1).wf = true → ∃ k, hornbooklaw03_LexWords.f k a0 a1 = some true
theorem hornbooklaw03_LexWords.walk (P : hornbooklaw03_LexWords.Pure) (a0 : ByteArray) (a1 : Int) (w : World) (w0 : a0.size ≤ 140737488351232) (w1 : (Lit.int .i64 a1).wf = true)(hG : GW w) :
    Calls Tryd.prog 6 #[.string a0, .int .i64 a1] w fun e w' => e = .returned (.bool true) ∧ Below w.heap.size w w' := by
  obtain ⟨k, h⟩ := P a0 a1 w0 w1
  refine (hornbooklaw03_LexWords.calls k a0 a1 true w hG h).mono ?_
  rintro e w' ⟨rfl, hd⟩
  exact ⟨rfl, hd⟩

end Go.Proofs.YtaolcbklpdodaaaDoor.M
