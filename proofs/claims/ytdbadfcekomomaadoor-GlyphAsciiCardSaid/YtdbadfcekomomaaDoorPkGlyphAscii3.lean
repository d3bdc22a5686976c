/- Letters and digits are what they are named: for every number c, the letter that c picks, in both cases, is the one value of its own name and leads back to it, and the name at the place that c picks among the first 95 is the name of the value 32 and that place. -/
/- Packed by this session's program hbpack.py out of this claim's own texts (Q6, Q5, Wr, Gf, Ge0, Pg, PureGlyphAscii, LawGlyphAscii): the same declarations, without those that the claim does not use. -/
import Derived.Test.YtdbadfcekomomaaDoorPkGlyphAscii2
import Derived.HandedShaped
import Derived.ProofKit
import Derived.LaidMore
import Derived.Lay
import Derived.Stop.Joined
import Derived.Shelf.Vars
import Derived.Stop.LaidErr
import Derived.Test.YtdbadfcekomomaaDoorRows
import Derived.Lib.IndexMore
import Derived.Lib.IndexAny
import Derived.WalkKit
import Derived.OpenShut
import Derived.ShutString
import Derived.ChangeOld
import Derived.Below
import Derived.SizedLaws
import Derived.SevenTiedAt
import Derived.Test.YtdbadfcekomomaaDoorCards
import Derived.Test.YtdbadfcekomomaaDoorTie
section
/- Laid by this session's program hbprint.py out of the translation: the function hornbook/hornbooklaw14.awake and its contract. -/
namespace Go.Proofs.YtdbadfcekomomaaDoor.M
open Go.RowKit Go.Proofs.YtdbadfcekomomaaDoorW.PrintWords Go.Proofs.YtdbadfcekomomaaDoorW.PrintLast Go.Proofs.YtdbadfcekomomaaDoorW.PrintMore
attribute [local go_sem] max2_int min2_int max_two min_two max_three min_three max_four min_four
set_option linter.unusedVariables false
set_option linter.unusedSimpArgs false
def hornbooklaw14_awake.f (k : Nat)  : Option (Bool) := (glyph_Uni.f k (⟨#[65]⟩ : ByteArray)).bind fun bt165 => ((glyph_Uni.f k (⟨#[100, 97, 108, 101, 116, 104, 97, 116, 97, 102, 112, 97, 116, 97, 104]⟩ : ByteArray)).bind fun bt169 => ((glyph_Back.f k 65).bind fun bt173 => (if bt165.2 = true then (if (bt165.1.length : Int) = 1 then (if 0 < (bt165.1.length : Int) then (if (rd bt165.1 0) = 65 then (if bt169.2 = true then (if (bt169.1.length : Int) = 2 then (if 0 < (bt169.1.length : Int) then (if (rd bt169.1 0) = 1491 then (if bt173.2 = true then (if bt173.1.toList = ([65] : List UInt8) then ((glyph_Count.f k).bind fun t177 => (some (decide (t177 > 300)))) else (some false)) else (some false)) else (some false)) else (none)) else (some false)) else (some false)) else (some false)) else (none)) else (some false)) else (some false))))
theorem hornbooklaw14_awake.mono : ∀ k, LeO (hornbooklaw14_awake.f k ) (hornbooklaw14_awake.f (k + 1) ) := by
 intro  k
 unfold hornbooklaw14_awake.f
 repeat' first
   | (with_reducible exact glyph_Back.mono _ _)
   | (with_reducible exact glyph_Count.mono _)
   | (with_reducible exact glyph_Uni.mono _ _)
   | (with_reducible exact LeO.refl _)
   | (with_reducible exact LeO.none _)
   | (with_reducible refine LeO.ite ?_ ?_)
   | (with_reducible refine LeO.bind ?_ (fun _ => ?_))
   | exact glyph_Back.mono _ _
   | exact glyph_Count.mono _
   | exact glyph_Uni.mono _ _
   | exact LeO.none _
   | refine LeO.ite ?_ ?_
   | refine LeO.bind ?_ (fun _ => ?_)
set_option maxHeartbeats 8000000 in
set_option maxRecDepth 100000 in
theorem hornbooklaw14_awake.calls (k : Nat)  (r : Bool) (w : World) (hG : GW w) (h : hornbooklaw14_awake.f k  = some r) :
  Calls Tryd.prog 6 #[] w fun e w' => e = .returned (.bool r) ∧ Below w.heap.size w w' := by
 have HG := Aside0.mk hG
 clear hG
 have HB := Aside0.mk (Below.refl w.heap.size w)
 have H : ((glyph_Uni.f k (⟨#[65]⟩ : ByteArray)).bind fun bt165 => ((glyph_Uni.f k (⟨#[100, 97, 108, 101, 116, 104, 97, 116, 97, 102, 112, 97, 116, 97, 104]⟩ : ByteArray)).bind fun bt169 => ((glyph_Back.f k 65).bind fun bt173 => (if bt165.2 = true then (if (bt165.1.length : Int) = 1 then (if 0 < (bt165.1.length : Int) then (if (rd bt165.1 0) = 65 then (if bt169.2 = true then (if (bt169.1.length : Int) = 2 then (if 0 < (bt169.1.length : Int) then (if (rd bt169.1 0) = 1491 then (if bt173.2 = true then (if bt173.1.toList = ([65] : List UInt8) then ((glyph_Count.f k).bind fun t177 => (some (decide (t177 > 300)))) else (some false)) else (some false)) else (some false)) else (none)) else (some false)) else (some false)) else (some false)) else (none)) else (some false)) else (some false))))) = some r := h
 clear h
 replace H := Option.bind_eq_some_iff.mp H
 obtain ⟨⟨t165, t166⟩, A10, H⟩ := H
 replace H : ((glyph_Uni.f k (⟨#[100, 97, 108, 101, 116, 104, 97, 116, 97, 102, 112, 97, 116, 97, 104]⟩ : ByteArray)).bind fun bt169 => ((glyph_Back.f k 65).bind fun bt173 => (if t166 = true then (if (t165.length : Int) = 1 then (if 0 < (t165.length : Int) then (if (rd t165 0) = 65 then (if bt169.2 = true then (if (bt169.1.length : Int) = 2 then (if 0 < (bt169.1.length : Int) then (if (rd bt169.1 0) = 1491 then (if bt173.2 = true then (if bt173.1.toList = ([65] : List UInt8) then ((glyph_Count.f k).bind fun t177 => (some (decide (t177 > 300)))) else (some false)) else (some false)) else (some false)) else (none)) else (some false)) else (some false)) else (some false)) else (none)) else (some false)) else (some false)))) = some r := H
 have A1 := Aside0.mk A10
 clear A10
 replace H := Option.bind_eq_some_iff.mp H
 obtain ⟨⟨t169, t170⟩, A20, H⟩ := H
 replace H : ((glyph_Back.f k 65).bind fun bt173 => (if t166 = true then (if (t165.length : Int) = 1 then (if 0 < (t165.length : Int) then (if (rd t165 0) = 65 then (if t170 = true then (if (t169.length : Int) = 2 then (if 0 < (t169.length : Int) then (if (rd t169 0) = 1491 then (if bt173.2 = true then (if bt173.1.toList = ([65] : List UInt8) then ((glyph_Count.f k).bind fun t177 => (some (decide (t177 > 300)))) else (some false)) else (some false)) else (some false)) else (none)) else (some false)) else (some false)) else (some false)) else (none)) else (some false)) else (some false))) = some r := H
 have A2 := Aside0.mk A20
 clear A20
 replace H := Option.bind_eq_some_iff.mp H
 obtain ⟨⟨t173, t174⟩, A30, H⟩ := H
 replace H : (if t166 = true then (if (t165.length : Int) = 1 then (if 0 < (t165.length : Int) then (if (rd t165 0) = 65 then (if t170 = true then (if (t169.length : Int) = 2 then (if 0 < (t169.length : Int) then (if (rd t169 0) = 1491 then (if t174 = true then (if t173.toList = ([65] : List UInt8) then ((glyph_Count.f k).bind fun t177 => (some (decide (t177 > 300)))) else (some false)) else (some false)) else (some false)) else (none)) else (some false)) else (some false)) else (some false)) else (none)) else (some false)) else (some false)) = some r := H
 have A3 := Aside0.mk A30
 clear A30
 by_cases c4 : t166 = true
 ·subst c4
  have H1 : (if (t165.length : Int) = 1 then (if 0 < (t165.length : Int) then (if (rd t165 0) = 65 then (if t170 = true then (if (t169.length : Int) = 2 then (if 0 < (t169.length : Int) then (if (rd t169 0) = 1491 then (if t174 = true then (if t173.toList = ([65] : List UInt8) then ((glyph_Count.f k).bind fun t177 => (some (decide (t177 > 300)))) else (some false)) else (some false)) else (some false)) else (none)) else (some false)) else (some false)) else (some false)) else (none)) else (some false)) = some r := by rw [if_pos rfl] at H; exact H
  clear H
  have H := H1
  clear H1
  by_cases c5 : (t165.length : Int) = 1
  ·rw [if_pos c5] at H
   have c5b0 : ((t165.length : Int) == 1) = true := beq_iff_eq.mpr c5
   have c5b1 : ((t165.length : Int) != 1) = false := bne_eq_false_iff_eq.mpr c5
   clear c5
   by_cases c6 : 0 < (t165.length : Int)
   ·rw [if_pos c6] at H
    have c6b0 : decide (0 < (t165.length : Int)) = true := decide_eq_true c6
    have c6b1 : decide (0 < t165.length) = true := decide_eq_true (by omega)
    clear c6
    by_cases c7 : (rd t165 0) = 65
    ·rw [if_pos c7] at H
     have c7b0 : ((rd t165 0) == 65) = true := beq_iff_eq.mpr c7
     have c7b1 : ((rd t165 0) != 65) = false := bne_eq_false_iff_eq.mpr c7
     clear c7
     by_cases c8 : t170 = true
     ·subst c8
      have H1 : (if (t169.length : Int) = 2 then (if 0 < (t169.length : Int) then (if (rd t169 0) = 1491 then (if t174 = true then (if t173.toList = ([65] : List UInt8) then ((glyph_Count.f k).bind fun t177 => (some (decide (t177 > 300)))) else (some false)) else (some false)) else (some false)) else (none)) else (some false)) = some r := by rw [if_pos rfl] at H; exact H
      clear H
      have H := H1
      clear H1
      by_cases c9 : (t169.length : Int) = 2
      ·rw [if_pos c9] at H
       have c9b0 : ((t169.length : Int) == 2) = true := beq_iff_eq.mpr c9
       have c9b1 : ((t169.length : Int) != 2) = false := bne_eq_false_iff_eq.mpr c9
       clear c9
       by_cases c10 : 0 < (t169.length : Int)
       ·rw [if_pos c10] at H
        have c10b0 : decide (0 < (t169.length : Int)) = true := decide_eq_true c10
        have c10b1 : decide (0 < t169.length) = true := decide_eq_true (by omega)
        clear c10
        by_cases c11 : (rd t169 0) = 1491
        ·rw [if_pos c11] at H
         have c11b0 : ((rd t169 0) == 1491) = true := beq_iff_eq.mpr c11
         have c11b1 : ((rd t169 0) != 1491) = false := bne_eq_false_iff_eq.mpr c11
         clear c11
         by_cases c12 : t174 = true
         ·subst c12
          have H1 : (if t173.toList = ([65] : List UInt8) then ((glyph_Count.f k).bind fun t177 => (some (decide (t177 > 300)))) else (some false)) = some r := by rw [if_pos rfl] at H; exact H
          clear H
          have H := H1
          clear H1
          by_cases c13 : t173.toList = ([65] : List UInt8)
          ·rw [if_pos c13] at H
           have c13b0 : (t173.toList == ([65] : List UInt8)) = true := beq_iff_eq.mpr c13
           have c13b1 : (t173.toList != ([65] : List UInt8)) = false := bne_eq_false_iff_eq.mpr c13
           clear c13
           replace H := Option.bind_eq_some_iff.mp H
           obtain ⟨t177, A140, H⟩ := H
           replace H : (some (decide (t177 > 300))) = some r := H
           have A14 := Aside0.mk A140
           clear A140
           obtain rfl := Option.some.inj H
           go_enter Tryd.func6, Tryd.ntmps6
           go_wp2_with (first | ((with_reducible refine gate_callee (f := 7) rfl ?_); refine goesL_ (some 8) rfl rfl Tryd.func7 (by kernel_rfl) rfl #[.string (⟨#[65]⟩ : ByteArray)] rfl (by (try simp only [List.map_toArray, List.map_cons, List.map_nil]); first | done | rfl | (simp only [List.length_drop, List.length_take]; rfl)) ?_; (with_reducible refine (glyph_Uni.calls k (⟨#[65]⟩ : ByteArray) t165 true _ ?side1 A1.out).mono ?_); (case side1 => exact GW.below (by repeat (first | (with_reducible first | exact HB.out | apply below_alloc | apply pw_below_drewN | apply below_drew1) | exact HB.out)) HG.out); rintro e w15 ⟨v167, rfl, ho0, hb⟩; refine ⟨_, rfl, ?_⟩; have n0_ := Aside0.mk (Kd.R_lower ho0 (below_size (by repeat (first | (with_reducible first | exact HB.out | apply below_alloc | apply pw_below_drewN | apply below_drew1) | exact HB.out)))); have n1_ := Aside0.mk (below_step (by repeat (first | (with_reducible first | exact HB.out | apply below_alloc | apply pw_below_drewN | apply below_drew1) | exact HB.out)) hb); clear HB; have HO168 := n0_; have HB := n1_; clear n0_ n1_; (try clear hb); (try clear hb2); (try clear hk); (try clear hi); (try clear ho0)) | ((with_reducible refine gate_callee (f := 7) rfl ?_); refine goesL_ (some 12) rfl rfl Tryd.func7 (by kernel_rfl) rfl #[.string (⟨#[100, 97, 108, 101, 116, 104, 97, 116, 97, 102, 112, 97, 116, 97, 104]⟩ : ByteArray)] rfl (by (try simp only [List.map_toArray, List.map_cons, List.map_nil]); first | done | rfl | (simp only [List.length_drop, List.length_take]; rfl)) ?_; (with_reducible refine (glyph_Uni.calls k (⟨#[100, 97, 108, 101, 116, 104, 97, 116, 97, 102, 112, 97, 116, 97, 104]⟩ : ByteArray) t169 true _ ?side1 A2.out).mono ?_); (case side1 => exact GW.below (by repeat (first | (with_reducible first | exact HB.out | apply below_alloc | apply pw_below_drewN | apply below_drew1) | exact HB.out)) HG.out); rintro e w16 ⟨v171, rfl, ho0, hb⟩; refine ⟨_, rfl, ?_⟩; have n0_ := Aside0.mk (Kd.R_elder' (by (with_reducible repeat (first | apply Kd.R_alloc | apply Kd.R_drewN | apply Kd.R_drew)); exact HO168.out) (Kd.R_base ho0) hb); have n1_ := Aside0.mk (Kd.R_lower (Kd.R_new' ho0 (Kd.R_lt (by (with_reducible repeat (first | apply Kd.R_alloc | apply Kd.R_drewN | apply Kd.R_drew)); exact HO168.out))) (below_size (by repeat (first | (with_reducible first | exact HB.out | apply below_alloc | apply pw_below_drewN | apply below_drew1) | exact HB.out)))); have n2_ := Aside0.mk (below_step (by repeat (first | (with_reducible first | exact HB.out | apply below_alloc | apply pw_below_drewN | apply below_drew1) | exact HB.out)) hb); clear HO168; clear HB; have HO168 := n0_; have HO172 := n1_; have HB := n2_; clear n0_ n1_ n2_; (try clear hb); (try clear hb2); (try clear hk); (try clear hi); (try clear ho0)) | ((with_reducible refine gate_callee (f := 9) rfl ?_); refine goesL_ (some 16) rfl rfl Tryd.func9 (by kernel_rfl) rfl #[.int .i64 65] rfl (by (try simp only [List.map_toArray, List.map_cons, List.map_nil]); first | done | rfl | (simp only [List.length_drop, List.length_take]; rfl)) ?_; (with_reducible refine (glyph_Back.calls k 65 t173 true _ ?side1 A3.out).mono ?_); (case side1 => exact GW.below (by repeat (first | (with_reducible first | exact HB.out | apply below_alloc | apply pw_below_drewN | apply below_drew1) | exact HB.out)) HG.out); rintro e w17 ⟨rfl, hb⟩; refine ⟨_, rfl, ?_⟩; have n0_ := Aside0.mk (Kd.R_below (by (with_reducible repeat (first | apply Kd.R_alloc | apply Kd.R_drewN | apply Kd.R_drew)); exact HO168.out) hb); have n1_ := Aside0.mk (Kd.R_below (by (with_reducible repeat (first | apply Kd.R_alloc | apply Kd.R_drewN | apply Kd.R_drew)); exact HO172.out) hb); have n2_ := Aside0.mk (below_step (by repeat (first | (with_reducible first | exact HB.out | apply below_alloc | apply pw_below_drewN | apply below_drew1) | exact HB.out)) hb); clear HO168; clear HO172; clear HB; have HO168 := n0_; have HO172 := n1_; have HB := n2_; clear n0_ n1_ n2_; (try clear hb); (try clear hb2); (try clear hk); (try clear hi); obtain ⟨Ao18, co18, eo18⟩ := Kd.R_slice HO168.out; subst eo18; have p175 : 0 ≤ (0 : Int) := (by omega); have q175 : 0 < (t165.length : Int) := of_decide_eq_true (by first | (with_reducible assumption) | assumption); obtain ⟨ad175, e175, hx175_0⟩ := Kd.at_int (Kd.R_reads' HO168.out).2.2 0 p175 q175; cases e175; have qi175 : (0 < t165.length) = True := eq_true (by omega); (try rw [show ((0 : Int)).toNat = 0 from rfl] at hx175_0); (try rw [Addr.add_zero'] at hx175_0); replace p175 := eq_true p175; replace q175 := eq_true q175; obtain ⟨Ao19, co19, eo19⟩ := Kd.R_slice HO172.out; subst eo19; have p176 : 0 ≤ (0 : Int) := (by omega); have q176 : 0 < (t169.length : Int) := of_decide_eq_true (by first | (with_reducible assumption) | assumption); obtain ⟨ad176, e176, hx176_0⟩ := Kd.at_int (Kd.R_reads' HO172.out).2.2 0 p176 q176; cases e176; have qi176 : (0 < t169.length) = True := eq_true (by omega); (try rw [show ((0 : Int)).toNat = 0 from rfl] at hx176_0); (try rw [Addr.add_zero'] at hx176_0); replace p176 := eq_true p176; replace q176 := eq_true q176) | (go_at_call 13; (with_reducible refine (glyph_Count.calls k  t177 _ ?side1 A14.out).mono ?_); (case side1 => exact GW.below (by repeat (first | (with_reducible first | exact HB.out | apply below_alloc | apply pw_below_drewN | apply below_drew1) | exact HB.out)) HG.out); rintro e w20 ⟨rfl, hb⟩; have n0_ := Aside0.mk (Kd.R_below (by (with_reducible repeat (first | apply Kd.R_alloc | apply Kd.R_drewN | apply Kd.R_drew)); exact HO168.out) hb); have n1_ := Aside0.mk (Kd.R_below (by (with_reducible repeat (first | apply Kd.R_alloc | apply Kd.R_drewN | apply Kd.R_drew)); exact HO172.out) hb); have n2_ := Aside0.mk (below_step (by repeat (first | (with_reducible first | exact HB.out | apply below_alloc | apply pw_below_drewN | apply below_drew1) | exact HB.out)) hb); clear HO168; clear HO172; clear HB; have HO168 := n0_; have HO172 := n1_; have HB := n2_; clear n0_ n1_ n2_; (try clear hb); (try clear hb2); (try clear hk); (try clear hi)))
           go_ret
           exact ⟨by first | rfl | (simp [errW_none, errW_some] <;> rfl) | (simp [*, errW_none, errW_some] <;> rfl), by repeat (first | (with_reducible first | exact HB.out | apply below_alloc | apply pw_below_drewN | apply below_drew1) | exact HB.out)⟩
          ·rw [if_neg c13] at H
           have c13b0 : (t173.toList == ([65] : List UInt8)) = false := beq_eq_false_iff_ne.mpr c13
           have c13b1 : (t173.toList != ([65] : List UInt8)) = true := bne_iff_ne.mpr c13
           obtain rfl := Option.some.inj H
           go_enter Tryd.func6, Tryd.ntmps6
           go_wp2_with (first | ((with_reducible refine gate_callee (f := 7) rfl ?_); refine goesL_ (some 8) rfl rfl Tryd.func7 (by kernel_rfl) rfl #[.string (⟨#[65]⟩ : ByteArray)] rfl (by (try simp only [List.map_toArray, List.map_cons, List.map_nil]); first | done | rfl | (simp only [List.length_drop, List.length_take]; rfl)) ?_; (with_reducible refine (glyph_Uni.calls k (⟨#[65]⟩ : ByteArray) t165 true _ ?side1 A1.out).mono ?_); (case side1 => exact GW.below (by repeat (first | (with_reducible first | exact HB.out | apply below_alloc | apply pw_below_drewN | apply below_drew1) | exact HB.out)) HG.out); rintro e w21 ⟨v167, rfl, ho0, hb⟩; refine ⟨_, rfl, ?_⟩; have n0_ := Aside0.mk (Kd.R_lower ho0 (below_size (by repeat (first | (with_reducible first | exact HB.out | apply below_alloc | apply pw_below_drewN | apply below_drew1) | exact HB.out)))); have n1_ := Aside0.mk (below_step (by repeat (first | (with_reducible first | exact HB.out | apply below_alloc | apply pw_below_drewN | apply below_drew1) | exact HB.out)) hb); clear HB; have HO168 := n0_; have HB := n1_; clear n0_ n1_; (try clear hb); (try clear hb2); (try clear hk); (try clear hi); (try clear ho0)) | ((with_reducible refine gate_callee (f := 7) rfl ?_); refine goesL_ (some 12) rfl rfl Tryd.func7 (by kernel_rfl) rfl #[.string (⟨#[100, 97, 108, 101, 116, 104, 97, 116, 97, 102, 112, 97, 116, 97, 104]⟩ : ByteArray)] rfl (by (try simp only [List.map_toArray, List.map_cons, List.map_nil]); first | done | rfl | (simp only [List.length_drop, List.length_take]; rfl)) ?_; (with_reducible refine (glyph_Uni.calls k (⟨#[100, 97, 108, 101, 116, 104, 97, 116, 97, 102, 112, 97, 116, 97, 104]⟩ : ByteArray) t169 true _ ?side1 A2.out).mono ?_); (case side1 => exact GW.below (by repeat (first | (with_reducible first | exact HB.out | apply below_alloc | apply pw_below_drewN | apply below_drew1) | exact HB.out)) HG.out); rintro e w22 ⟨v171, rfl, ho0, hb⟩; refine ⟨_, rfl, ?_⟩; have n0_ := Aside0.mk (Kd.R_elder' (by (with_reducible repeat (first | apply Kd.R_alloc | apply Kd.R_drewN | apply Kd.R_drew)); exact HO168.out) (Kd.R_base ho0) hb); have n1_ := Aside0.mk (Kd.R_lower (Kd.R_new' ho0 (Kd.R_lt (by (with_reducible repeat (first | apply Kd.R_alloc | apply Kd.R_drewN | apply Kd.R_drew)); exact HO168.out))) (below_size (by repeat (first | (with_reducible first | exact HB.out | apply below_alloc | apply pw_below_drewN | apply below_drew1) | exact HB.out)))); have n2_ := Aside0.mk (below_step (by repeat (first | (with_reducible first | exact HB.out | apply below_alloc | apply pw_below_drewN | apply below_drew1) | exact HB.out)) hb); clear HO168; clear HB; have HO168 := n0_; have HO172 := n1_; have HB := n2_; clear n0_ n1_ n2_; (try clear hb); (try clear hb2); (try clear hk); (try clear hi); (try clear ho0)) | ((with_reducible refine gate_callee (f := 9) rfl ?_); refine goesL_ (some 16) rfl rfl Tryd.func9 (by kernel_rfl) rfl #[.int .i64 65] rfl (by (try simp only [List.map_toArray, List.map_cons, List.map_nil]); first | done | rfl | (simp only [List.length_drop, List.length_take]; rfl)) ?_; (with_reducible refine (glyph_Back.calls k 65 t173 true _ ?side1 A3.out).mono ?_); (case side1 => exact GW.below (by repeat (first | (with_reducible first | exact HB.out | apply below_alloc | apply pw_below_drewN | apply below_drew1) | exact HB.out)) HG.out); rintro e w23 ⟨rfl, hb⟩; refine ⟨_, rfl, ?_⟩; have n0_ := Aside0.mk (Kd.R_below (by (with_reducible repeat (first | apply Kd.R_alloc | apply Kd.R_drewN | apply Kd.R_drew)); exact HO168.out) hb); have n1_ := Aside0.mk (Kd.R_below (by (with_reducible repeat (first | apply Kd.R_alloc | apply Kd.R_drewN | apply Kd.R_drew)); exact HO172.out) hb); have n2_ := Aside0.mk (below_step (by repeat (first | (with_reducible first | exact HB.out | apply below_alloc | apply pw_below_drewN | apply below_drew1) | exact HB.out)) hb); clear HO168; clear HO172; clear HB; have HO168 := n0_; have HO172 := n1_; have HB := n2_; clear n0_ n1_ n2_; (try clear hb); (try clear hb2); (try clear hk); (try clear hi); obtain ⟨Ao24, co24, eo24⟩ := Kd.R_slice HO168.out; subst eo24; have p175 : 0 ≤ (0 : Int) := (by omega); have q175 : 0 < (t165.length : Int) := of_decide_eq_true (by first | (with_reducible assumption) | assumption); obtain ⟨ad175, e175, hx175_0⟩ := Kd.at_int (Kd.R_reads' HO168.out).2.2 0 p175 q175; cases e175; have qi175 : (0 < t165.length) = True := eq_true (by omega); (try rw [show ((0 : Int)).toNat = 0 from rfl] at hx175_0); (try rw [Addr.add_zero'] at hx175_0); replace p175 := eq_true p175; replace q175 := eq_true q175; obtain ⟨Ao25, co25, eo25⟩ := Kd.R_slice HO172.out; subst eo25; have p176 : 0 ≤ (0 : Int) := (by omega); have q176 : 0 < (t169.length : Int) := of_decide_eq_true (by first | (with_reducible assumption) | assumption); obtain ⟨ad176, e176, hx176_0⟩ := Kd.at_int (Kd.R_reads' HO172.out).2.2 0 p176 q176; cases e176; have qi176 : (0 < t169.length) = True := eq_true (by omega); (try rw [show ((0 : Int)).toNat = 0 from rfl] at hx176_0); (try rw [Addr.add_zero'] at hx176_0); replace p176 := eq_true p176; replace q176 := eq_true q176))
           go_ret
           exact ⟨by first | rfl | (simp [errW_none, errW_some] <;> rfl) | (simp [*, errW_none, errW_some] <;> rfl), by repeat (first | (with_reducible first | exact HB.out | apply below_alloc | apply pw_below_drewN | apply below_drew1) | exact HB.out)⟩
         ·replace c12 := Bool.eq_false_iff.mpr c12
          subst c12
          have H1 : (some false) = some r := by rw [if_neg (show ¬ (false = true) by decide)] at H; exact H
          clear H
          have H := H1
          clear H1
          obtain rfl := Option.some.inj H
          go_enter Tryd.func6, Tryd.ntmps6
          go_wp2_with (first | ((with_reducible refine gate_callee (f := 7) rfl ?_); refine goesL_ (some 8) rfl rfl Tryd.func7 (by kernel_rfl) rfl #[.string (⟨#[65]⟩ : ByteArray)] rfl (by (try simp only [List.map_toArray, List.map_cons, List.map_nil]); first | done | rfl | (simp only [List.length_drop, List.length_take]; rfl)) ?_; (with_reducible refine (glyph_Uni.calls k (⟨#[65]⟩ : ByteArray) t165 true _ ?side1 A1.out).mono ?_); (case side1 => exact GW.below (by repeat (first | (with_reducible first | exact HB.out | apply below_alloc | apply pw_below_drewN | apply below_drew1) | exact HB.out)) HG.out); rintro e w26 ⟨v167, rfl, ho0, hb⟩; refine ⟨_, rfl, ?_⟩; have n0_ := Aside0.mk (Kd.R_lower ho0 (below_size (by repeat (first | (with_reducible first | exact HB.out | apply below_alloc | apply pw_below_drewN | apply below_drew1) | exact HB.out)))); have n1_ := Aside0.mk (below_step (by repeat (first | (with_reducible first | exact HB.out | apply below_alloc | apply pw_below_drewN | apply below_drew1) | exact HB.out)) hb); clear HB; have HO168 := n0_; have HB := n1_; clear n0_ n1_; (try clear hb); (try clear hb2); (try clear hk); (try clear hi); (try clear ho0)) | ((with_reducible refine gate_callee (f := 7) rfl ?_); refine goesL_ (some 12) rfl rfl Tryd.func7 (by kernel_rfl) rfl #[.string (⟨#[100, 97, 108, 101, 116, 104, 97, 116, 97, 102, 112, 97, 116, 97, 104]⟩ : ByteArray)] rfl (by (try simp only [List.map_toArray, List.map_cons, List.map_nil]); first | done | rfl | (simp only [List.length_drop, List.length_take]; rfl)) ?_; (with_reducible refine (glyph_Uni.calls k (⟨#[100, 97, 108, 101, 116, 104, 97, 116, 97, 102, 112, 97, 116, 97, 104]⟩ : ByteArray) t169 true _ ?side1 A2.out).mono ?_); (case side1 => exact GW.below (by repeat (first | (with_reducible first | exact HB.out | apply below_alloc | apply pw_below_drewN | apply below_drew1) | exact HB.out)) HG.out); rintro e w27 ⟨v171, rfl, ho0, hb⟩; refine ⟨_, rfl, ?_⟩; have n0_ := Aside0.mk (Kd.R_elder' (by (with_reducible repeat (first | apply Kd.R_alloc | apply Kd.R_drewN | apply Kd.R_drew)); exact HO168.out) (Kd.R_base ho0) hb); have n1_ := Aside0.mk (Kd.R_lower (Kd.R_new' ho0 (Kd.R_lt (by (with_reducible repeat (first | apply Kd.R_alloc | apply Kd.R_drewN | apply Kd.R_drew)); exact HO168.out))) (below_size (by repeat (first | (with_reducible first | exact HB.out | apply below_alloc | apply pw_below_drewN | apply below_drew1) | exact HB.out)))); have n2_ := Aside0.mk (below_step (by repeat (first | (with_reducible first | exact HB.out | apply below_alloc | apply pw_below_drewN | apply below_drew1) | exact HB.out)) hb); clear HO168; clear HB; have HO168 := n0_; have HO172 := n1_; have HB := n2_; clear n0_ n1_ n2_; (try clear hb); (try clear hb2); (try clear hk); (try clear hi); (try clear ho0)) | ((with_reducible refine gate_callee (f := 9) rfl ?_); refine goesL_ (some 16) rfl rfl Tryd.func9 (by kernel_rfl) rfl #[.int .i64 65] rfl (by (try simp only [List.map_toArray, List.map_cons, List.map_nil]); first | done | rfl | (simp only [List.length_drop, List.length_take]; rfl)) ?_; (with_reducible refine (glyph_Back.calls k 65 t173 false _ ?side1 A3.out).mono ?_); (case side1 => exact GW.below (by repeat (first | (with_reducible first | exact HB.out | apply below_alloc | apply pw_below_drewN | apply below_drew1) | exact HB.out)) HG.out); rintro e w28 ⟨rfl, hb⟩; refine ⟨_, rfl, ?_⟩; have n0_ := Aside0.mk (Kd.R_below (by (with_reducible repeat (first | apply Kd.R_alloc | apply Kd.R_drewN | apply Kd.R_drew)); exact HO168.out) hb); have n1_ := Aside0.mk (Kd.R_below (by (with_reducible repeat (first | apply Kd.R_alloc | apply Kd.R_drewN | apply Kd.R_drew)); exact HO172.out) hb); have n2_ := Aside0.mk (below_step (by repeat (first | (with_reducible first | exact HB.out | apply below_alloc | apply pw_below_drewN | apply below_drew1) | exact HB.out)) hb); clear HO168; clear HO172; clear HB; have HO168 := n0_; have HO172 := n1_; have HB := n2_; clear n0_ n1_ n2_; (try clear hb); (try clear hb2); (try clear hk); (try clear hi); obtain ⟨Ao29, co29, eo29⟩ := Kd.R_slice HO168.out; subst eo29; have p175 : 0 ≤ (0 : Int) := (by omega); have q175 : 0 < (t165.length : Int) := of_decide_eq_true (by first | (with_reducible assumption) | assumption); obtain ⟨ad175, e175, hx175_0⟩ := Kd.at_int (Kd.R_reads' HO168.out).2.2 0 p175 q175; cases e175; have qi175 : (0 < t165.length) = True := eq_true (by omega); (try rw [show ((0 : Int)).toNat = 0 from rfl] at hx175_0); (try rw [Addr.add_zero'] at hx175_0); replace p175 := eq_true p175; replace q175 := eq_true q175; obtain ⟨Ao30, co30, eo30⟩ := Kd.R_slice HO172.out; subst eo30; have p176 : 0 ≤ (0 : Int) := (by omega); have q176 : 0 < (t169.length : Int) := of_decide_eq_true (by first | (with_reducible assumption) | assumption); obtain ⟨ad176, e176, hx176_0⟩ := Kd.at_int (Kd.R_reads' HO172.out).2.2 0 p176 q176; cases e176; have qi176 : (0 < t169.length) = True := eq_true (by omega); (try rw [show ((0 : Int)).toNat = 0 from rfl] at hx176_0); (try rw [Addr.add_zero'] at hx176_0); replace p176 := eq_true p176; replace q176 := eq_true q176))
          go_ret
          exact ⟨by first | rfl | (simp [errW_none, errW_some] <;> rfl) | (simp [*, errW_none, errW_some] <;> rfl), by repeat (first | (with_reducible first | exact HB.out | apply below_alloc | apply pw_below_drewN | apply below_drew1) | exact HB.out)⟩
        ·rw [if_neg c11] at H
         have c11b0 : ((rd t169 0) == 1491) = false := beq_eq_false_iff_ne.mpr c11
         have c11b1 : ((rd t169 0) != 1491) = true := bne_iff_ne.mpr c11
         obtain rfl := Option.some.inj H
         go_enter Tryd.func6, Tryd.ntmps6
         go_wp2_with (first | ((with_reducible refine gate_callee (f := 7) rfl ?_); refine goesL_ (some 8) rfl rfl Tryd.func7 (by kernel_rfl) rfl #[.string (⟨#[65]⟩ : ByteArray)] rfl (by (try simp only [List.map_toArray, List.map_cons, List.map_nil]); first | done | rfl | (simp only [List.length_drop, List.length_take]; rfl)) ?_; (with_reducible refine (glyph_Uni.calls k (⟨#[65]⟩ : ByteArray) t165 true _ ?side1 A1.out).mono ?_); (case side1 => exact GW.below (by repeat (first | (with_reducible first | exact HB.out | apply below_alloc | apply pw_below_drewN | apply below_drew1) | exact HB.out)) HG.out); rintro e w31 ⟨v167, rfl, ho0, hb⟩; refine ⟨_, rfl, ?_⟩; have n0_ := Aside0.mk (Kd.R_lower ho0 (below_size (by repeat (first | (with_reducible first | exact HB.out | apply below_alloc | apply pw_below_drewN | apply below_drew1) | exact HB.out)))); have n1_ := Aside0.mk (below_step (by repeat (first | (with_reducible first | exact HB.out | apply below_alloc | apply pw_below_drewN | apply below_drew1) | exact HB.out)) hb); clear HB; have HO168 := n0_; have HB := n1_; clear n0_ n1_; (try clear hb); (try clear hb2); (try clear hk); (try clear hi); (try clear ho0)) | ((with_reducible refine gate_callee (f := 7) rfl ?_); refine goesL_ (some 12) rfl rfl Tryd.func7 (by kernel_rfl) rfl #[.string (⟨#[100, 97, 108, 101, 116, 104, 97, 116, 97, 102, 112, 97, 116, 97, 104]⟩ : ByteArray)] rfl (by (try simp only [List.map_toArray, List.map_cons, List.map_nil]); first | done | rfl | (simp only [List.length_drop, List.length_take]; rfl)) ?_; (with_reducible refine (glyph_Uni.calls k (⟨#[100, 97, 108, 101, 116, 104, 97, 116, 97, 102, 112, 97, 116, 97, 104]⟩ : ByteArray) t169 true _ ?side1 A2.out).mono ?_); (case side1 => exact GW.below (by repeat (first | (with_reducible first | exact HB.out | apply below_alloc | apply pw_below_drewN | apply below_drew1) | exact HB.out)) HG.out); rintro e w32 ⟨v171, rfl, ho0, hb⟩; refine ⟨_, rfl, ?_⟩; have n0_ := Aside0.mk (Kd.R_elder' (by (with_reducible repeat (first | apply Kd.R_alloc | apply Kd.R_drewN | apply Kd.R_drew)); exact HO168.out) (Kd.R_base ho0) hb); have n1_ := Aside0.mk (Kd.R_lower (Kd.R_new' ho0 (Kd.R_lt (by (with_reducible repeat (first | apply Kd.R_alloc | apply Kd.R_drewN | apply Kd.R_drew)); exact HO168.out))) (below_size (by repeat (first | (with_reducible first | exact HB.out | apply below_alloc | apply pw_below_drewN | apply below_drew1) | exact HB.out)))); have n2_ := Aside0.mk (below_step (by repeat (first | (with_reducible first | exact HB.out | apply below_alloc | apply pw_below_drewN | apply below_drew1) | exact HB.out)) hb); clear HO168; clear HB; have HO168 := n0_; have HO172 := n1_; have HB := n2_; clear n0_ n1_ n2_; (try clear hb); (try clear hb2); (try clear hk); (try clear hi); (try clear ho0)) | ((with_reducible refine gate_callee (f := 9) rfl ?_); refine goesL_ (some 16) rfl rfl Tryd.func9 (by kernel_rfl) rfl #[.int .i64 65] rfl (by (try simp only [List.map_toArray, List.map_cons, List.map_nil]); first | done | rfl | (simp only [List.length_drop, List.length_take]; rfl)) ?_; (with_reducible refine (glyph_Back.calls k 65 t173 t174 _ ?side1 A3.out).mono ?_); (case side1 => exact GW.below (by repeat (first | (with_reducible first | exact HB.out | apply below_alloc | apply pw_below_drewN | apply below_drew1) | exact HB.out)) HG.out); rintro e w33 ⟨rfl, hb⟩; refine ⟨_, rfl, ?_⟩; have n0_ := Aside0.mk (Kd.R_below (by (with_reducible repeat (first | apply Kd.R_alloc | apply Kd.R_drewN | apply Kd.R_drew)); exact HO168.out) hb); have n1_ := Aside0.mk (Kd.R_below (by (with_reducible repeat (first | apply Kd.R_alloc | apply Kd.R_drewN | apply Kd.R_drew)); exact HO172.out) hb); have n2_ := Aside0.mk (below_step (by repeat (first | (with_reducible first | exact HB.out | apply below_alloc | apply pw_below_drewN | apply below_drew1) | exact HB.out)) hb); clear HO168; clear HO172; clear HB; have HO168 := n0_; have HO172 := n1_; have HB := n2_; clear n0_ n1_ n2_; (try clear hb); (try clear hb2); (try clear hk); (try clear hi); obtain ⟨Ao34, co34, eo34⟩ := Kd.R_slice HO168.out; subst eo34; have p175 : 0 ≤ (0 : Int) := (by omega); have q175 : 0 < (t165.length : Int) := of_decide_eq_true (by first | (with_reducible assumption) | assumption); obtain ⟨ad175, e175, hx175_0⟩ := Kd.at_int (Kd.R_reads' HO168.out).2.2 0 p175 q175; cases e175; have qi175 : (0 < t165.length) = True := eq_true (by omega); (try rw [show ((0 : Int)).toNat = 0 from rfl] at hx175_0); (try rw [Addr.add_zero'] at hx175_0); replace p175 := eq_true p175; replace q175 := eq_true q175; obtain ⟨Ao35, co35, eo35⟩ := Kd.R_slice HO172.out; subst eo35; have p176 : 0 ≤ (0 : Int) := (by omega); have q176 : 0 < (t169.length : Int) := of_decide_eq_true (by first | (with_reducible assumption) | assumption); obtain ⟨ad176, e176, hx176_0⟩ := Kd.at_int (Kd.R_reads' HO172.out).2.2 0 p176 q176; cases e176; have qi176 : (0 < t169.length) = True := eq_true (by omega); (try rw [show ((0 : Int)).toNat = 0 from rfl] at hx176_0); (try rw [Addr.add_zero'] at hx176_0); replace p176 := eq_true p176; replace q176 := eq_true q176))
         go_ret
         exact ⟨by first | rfl | (simp [errW_none, errW_some] <;> rfl) | (simp [*, errW_none, errW_some] <;> rfl), by repeat (first | (with_reducible first | exact HB.out | apply below_alloc | apply pw_below_drewN | apply below_drew1) | exact HB.out)⟩
       ·rw [if_neg c10] at H
        exact absurd H (by simp)
      ·rw [if_neg c9] at H
       have c9b0 : ((t169.length : Int) == 2) = false := beq_eq_false_iff_ne.mpr c9
       have c9b1 : ((t169.length : Int) != 2) = true := bne_iff_ne.mpr c9
       obtain rfl := Option.some.inj H
       go_enter Tryd.func6, Tryd.ntmps6
       go_wp2_with (first | ((with_reducible refine gate_callee (f := 7) rfl ?_); refine goesL_ (some 8) rfl rfl Tryd.func7 (by kernel_rfl) rfl #[.string (⟨#[65]⟩ : ByteArray)] rfl (by (try simp only [List.map_toArray, List.map_cons, List.map_nil]); first | done | rfl | (simp only [List.length_drop, List.length_take]; rfl)) ?_; (with_reducible refine (glyph_Uni.calls k (⟨#[65]⟩ : ByteArray) t165 true _ ?side1 A1.out).mono ?_); (case side1 => exact GW.below (by repeat (first | (with_reducible first | exact HB.out | apply below_alloc | apply pw_below_drewN | apply below_drew1) | exact HB.out)) HG.out); rintro e w36 ⟨v167, rfl, ho0, hb⟩; refine ⟨_, rfl, ?_⟩; have n0_ := Aside0.mk (Kd.R_lower ho0 (below_size (by repeat (first | (with_reducible first | exact HB.out | apply below_alloc | apply pw_below_drewN | apply below_drew1) | exact HB.out)))); have n1_ := Aside0.mk (below_step (by repeat (first | (with_reducible first | exact HB.out | apply below_alloc | apply pw_below_drewN | apply below_drew1) | exact HB.out)) hb); clear HB; have HO168 := n0_; have HB := n1_; clear n0_ n1_; (try clear hb); (try clear hb2); (try clear hk); (try clear hi); (try clear ho0)) | ((with_reducible refine gate_callee (f := 7) rfl ?_); refine goesL_ (some 12) rfl rfl Tryd.func7 (by kernel_rfl) rfl #[.string (⟨#[100, 97, 108, 101, 116, 104, 97, 116, 97, 102, 112, 97, 116, 97, 104]⟩ : ByteArray)] rfl (by (try simp only [List.map_toArray, List.map_cons, List.map_nil]); first | done | rfl | (simp only [List.length_drop, List.length_take]; rfl)) ?_; (with_reducible refine (glyph_Uni.calls k (⟨#[100, 97, 108, 101, 116, 104, 97, 116, 97, 102, 112, 97, 116, 97, 104]⟩ : ByteArray) t169 true _ ?side1 A2.out).mono ?_); (case side1 => exact GW.below (by repeat (first | (with_reducible first | exact HB.out | apply below_alloc | apply pw_below_drewN | apply below_drew1) | exact HB.out)) HG.out); rintro e w37 ⟨v171, rfl, ho0, hb⟩; refine ⟨_, rfl, ?_⟩; have n0_ := Aside0.mk (Kd.R_elder' (by (with_reducible repeat (first | apply Kd.R_alloc | apply Kd.R_drewN | apply Kd.R_drew)); exact HO168.out) (Kd.R_base ho0) hb); have n1_ := Aside0.mk (Kd.R_lower (Kd.R_new' ho0 (Kd.R_lt (by (with_reducible repeat (first | apply Kd.R_alloc | apply Kd.R_drewN | apply Kd.R_drew)); exact HO168.out))) (below_size (by repeat (first | (with_reducible first | exact HB.out | apply below_alloc | apply pw_below_drewN | apply below_drew1) | exact HB.out)))); have n2_ := Aside0.mk (below_step (by repeat (first | (with_reducible first | exact HB.out | apply below_alloc | apply pw_below_drewN | apply below_drew1) | exact HB.out)) hb); clear HO168; clear HB; have HO168 := n0_; have HO172 := n1_; have HB := n2_; clear n0_ n1_ n2_; (try clear hb); (try clear hb2); (try clear hk); (try clear hi); (try clear ho0)) | ((with_reducible refine gate_callee (f := 9) rfl ?_); refine goesL_ (some 16) rfl rfl Tryd.func9 (by kernel_rfl) rfl #[.int .i64 65] rfl (by (try simp only [List.map_toArray, List.map_cons, List.map_nil]); first | done | rfl | (simp only [List.length_drop, List.length_take]; rfl)) ?_; (with_reducible refine (glyph_Back.calls k 65 t173 t174 _ ?side1 A3.out).mono ?_); (case side1 => exact GW.below (by repeat (first | (with_reducible first | exact HB.out | apply below_alloc | apply pw_below_drewN | apply below_drew1) | exact HB.out)) HG.out); rintro e w38 ⟨rfl, hb⟩; refine ⟨_, rfl, ?_⟩; have n0_ := Aside0.mk (Kd.R_below (by (with_reducible repeat (first | apply Kd.R_alloc | apply Kd.R_drewN | apply Kd.R_drew)); exact HO168.out) hb); have n1_ := Aside0.mk (Kd.R_below (by (with_reducible repeat (first | apply Kd.R_alloc | apply Kd.R_drewN | apply Kd.R_drew)); exact HO172.out) hb); have n2_ := Aside0.mk (below_step (by repeat (first | (with_reducible first | exact HB.out | apply below_alloc | apply pw_below_drewN | apply below_drew1) | exact HB.out)) hb); clear HO168; clear HO172; clear HB; have HO168 := n0_; have HO172 := n1_; have HB := n2_; clear n0_ n1_ n2_; (try clear hb); (try clear hb2); (try clear hk); (try clear hi); obtain ⟨Ao39, co39, eo39⟩ := Kd.R_slice HO168.out; subst eo39; have p175 : 0 ≤ (0 : Int) := (by omega); have q175 : 0 < (t165.length : Int) := of_decide_eq_true (by first | (with_reducible assumption) | assumption); obtain ⟨ad175, e175, hx175_0⟩ := Kd.at_int (Kd.R_reads' HO168.out).2.2 0 p175 q175; cases e175; have qi175 : (0 < t165.length) = True := eq_true (by omega); (try rw [show ((0 : Int)).toNat = 0 from rfl] at hx175_0); (try rw [Addr.add_zero'] at hx175_0); replace p175 := eq_true p175; replace q175 := eq_true q175; obtain ⟨Ao40, co40, eo40⟩ := Kd.R_slice HO172.out; subst eo40))
       go_ret
       exact ⟨by first | rfl | (simp [errW_none, errW_some] <;> rfl) | (simp [*, errW_none, errW_some] <;> rfl), by repeat (first | (with_reducible first | exact HB.out | apply below_alloc | apply pw_below_drewN | apply below_drew1) | exact HB.out)⟩
     ·replace c8 := Bool.eq_false_iff.mpr c8
      subst c8
      have H1 : (some false) = some r := by rw [if_neg (show ¬ (false = true) by decide)] at H; exact H
      clear H
      have H := H1
      clear H1
      obtain rfl := Option.some.inj H
      go_enter Tryd.func6, Tryd.ntmps6
      go_wp2_with (first | ((with_reducible refine gate_callee (f := 7) rfl ?_); refine goesL_ (some 8) rfl rfl Tryd.func7 (by kernel_rfl) rfl #[.string (⟨#[65]⟩ : ByteArray)] rfl (by (try simp only [List.map_toArray, List.map_cons, List.map_nil]); first | done | rfl | (simp only [List.length_drop, List.length_take]; rfl)) ?_; (with_reducible refine (glyph_Uni.calls k (⟨#[65]⟩ : ByteArray) t165 true _ ?side1 A1.out).mono ?_); (case side1 => exact GW.below (by repeat (first | (with_reducible first | exact HB.out | apply below_alloc | apply pw_below_drewN | apply below_drew1) | exact HB.out)) HG.out); rintro e w41 ⟨v167, rfl, ho0, hb⟩; refine ⟨_, rfl, ?_⟩; have n0_ := Aside0.mk (Kd.R_lower ho0 (below_size (by repeat (first | (with_reducible first | exact HB.out | apply below_alloc | apply pw_below_drewN | apply below_drew1) | exact HB.out)))); have n1_ := Aside0.mk (below_step (by repeat (first | (with_reducible first | exact HB.out | apply below_alloc | apply pw_below_drewN | apply below_drew1) | exact HB.out)) hb); clear HB; have HO168 := n0_; have HB := n1_; clear n0_ n1_; (try clear hb); (try clear hb2); (try clear hk); (try clear hi); (try clear ho0)) | ((with_reducible refine gate_callee (f := 7) rfl ?_); refine goesL_ (some 12) rfl rfl Tryd.func7 (by kernel_rfl) rfl #[.string (⟨#[100, 97, 108, 101, 116, 104, 97, 116, 97, 102, 112, 97, 116, 97, 104]⟩ : ByteArray)] rfl (by (try simp only [List.map_toArray, List.map_cons, List.map_nil]); first | done | rfl | (simp only [List.length_drop, List.length_take]; rfl)) ?_; (with_reducible refine (glyph_Uni.calls k (⟨#[100, 97, 108, 101, 116, 104, 97, 116, 97, 102, 112, 97, 116, 97, 104]⟩ : ByteArray) t169 false _ ?side1 A2.out).mono ?_); (case side1 => exact GW.below (by repeat (first | (with_reducible first | exact HB.out | apply below_alloc | apply pw_below_drewN | apply below_drew1) | exact HB.out)) HG.out); rintro e w42 ⟨v171, rfl, ho0, hb⟩; refine ⟨_, rfl, ?_⟩; have n0_ := Aside0.mk (Kd.R_elder' (by (with_reducible repeat (first | apply Kd.R_alloc | apply Kd.R_drewN | apply Kd.R_drew)); exact HO168.out) (Kd.R_base ho0) hb); have n1_ := Aside0.mk (Kd.R_lower (Kd.R_new' ho0 (Kd.R_lt (by (with_reducible repeat (first | apply Kd.R_alloc | apply Kd.R_drewN | apply Kd.R_drew)); exact HO168.out))) (below_size (by repeat (first | (with_reducible first | exact HB.out | apply below_alloc | apply pw_below_drewN | apply below_drew1) | exact HB.out)))); have n2_ := Aside0.mk (below_step (by repeat (first | (with_reducible first | exact HB.out | apply below_alloc | apply pw_below_drewN | apply below_drew1) | exact HB.out)) hb); clear HO168; clear HB; have HO168 := n0_; have HO172 := n1_; have HB := n2_; clear n0_ n1_ n2_; (try clear hb); (try clear hb2); (try clear hk); (try clear hi); (try clear ho0)) | ((with_reducible refine gate_callee (f := 9) rfl ?_); refine goesL_ (some 16) rfl rfl Tryd.func9 (by kernel_rfl) rfl #[.int .i64 65] rfl (by (try simp only [List.map_toArray, List.map_cons, List.map_nil]); first | done | rfl | (simp only [List.length_drop, List.length_take]; rfl)) ?_; (with_reducible refine (glyph_Back.calls k 65 t173 t174 _ ?side1 A3.out).mono ?_); (case side1 => exact GW.below (by repeat (first | (with_reducible first | exact HB.out | apply below_alloc | apply pw_below_drewN | apply below_drew1) | exact HB.out)) HG.out); rintro e w43 ⟨rfl, hb⟩; refine ⟨_, rfl, ?_⟩; have n0_ := Aside0.mk (Kd.R_below (by (with_reducible repeat (first | apply Kd.R_alloc | apply Kd.R_drewN | apply Kd.R_drew)); exact HO168.out) hb); have n1_ := Aside0.mk (Kd.R_below (by (with_reducible repeat (first | apply Kd.R_alloc | apply Kd.R_drewN | apply Kd.R_drew)); exact HO172.out) hb); have n2_ := Aside0.mk (below_step (by repeat (first | (with_reducible first | exact HB.out | apply below_alloc | apply pw_below_drewN | apply below_drew1) | exact HB.out)) hb); clear HO168; clear HO172; clear HB; have HO168 := n0_; have HO172 := n1_; have HB := n2_; clear n0_ n1_ n2_; (try clear hb); (try clear hb2); (try clear hk); (try clear hi); obtain ⟨Ao44, co44, eo44⟩ := Kd.R_slice HO168.out; subst eo44; have p175 : 0 ≤ (0 : Int) := (by omega); have q175 : 0 < (t165.length : Int) := of_decide_eq_true (by first | (with_reducible assumption) | assumption); obtain ⟨ad175, e175, hx175_0⟩ := Kd.at_int (Kd.R_reads' HO168.out).2.2 0 p175 q175; cases e175; have qi175 : (0 < t165.length) = True := eq_true (by omega); (try rw [show ((0 : Int)).toNat = 0 from rfl] at hx175_0); (try rw [Addr.add_zero'] at hx175_0); replace p175 := eq_true p175; replace q175 := eq_true q175))
      go_ret
      exact ⟨by first | rfl | (simp [errW_none, errW_some] <;> rfl) | (simp [*, errW_none, errW_some] <;> rfl), by repeat (first | (with_reducible first | exact HB.out | apply below_alloc | apply pw_below_drewN | apply below_drew1) | exact HB.out)⟩
    ·rw [if_neg c7] at H
     have c7b0 : ((rd t165 0) == 65) = false := beq_eq_false_iff_ne.mpr c7
     have c7b1 : ((rd t165 0) != 65) = true := bne_iff_ne.mpr c7
     obtain rfl := Option.some.inj H
     go_enter Tryd.func6, Tryd.ntmps6
     go_wp2_with (first | ((with_reducible refine gate_callee (f := 7) rfl ?_); refine goesL_ (some 8) rfl rfl Tryd.func7 (by kernel_rfl) rfl #[.string (⟨#[65]⟩ : ByteArray)] rfl (by (try simp only [List.map_toArray, List.map_cons, List.map_nil]); first | done | rfl | (simp only [List.length_drop, List.length_take]; rfl)) ?_; (with_reducible refine (glyph_Uni.calls k (⟨#[65]⟩ : ByteArray) t165 true _ ?side1 A1.out).mono ?_); (case side1 => exact GW.below (by repeat (first | (with_reducible first | exact HB.out | apply below_alloc | apply pw_below_drewN | apply below_drew1) | exact HB.out)) HG.out); rintro e w45 ⟨v167, rfl, ho0, hb⟩; refine ⟨_, rfl, ?_⟩; have n0_ := Aside0.mk (Kd.R_lower ho0 (below_size (by repeat (first | (with_reducible first | exact HB.out | apply below_alloc | apply pw_below_drewN | apply below_drew1) | exact HB.out)))); have n1_ := Aside0.mk (below_step (by repeat (first | (with_reducible first | exact HB.out | apply below_alloc | apply pw_below_drewN | apply below_drew1) | exact HB.out)) hb); clear HB; have HO168 := n0_; have HB := n1_; clear n0_ n1_; (try clear hb); (try clear hb2); (try clear hk); (try clear hi); (try clear ho0)) | ((with_reducible refine gate_callee (f := 7) rfl ?_); refine goesL_ (some 12) rfl rfl Tryd.func7 (by kernel_rfl) rfl #[.string (⟨#[100, 97, 108, 101, 116, 104, 97, 116, 97, 102, 112, 97, 116, 97, 104]⟩ : ByteArray)] rfl (by (try simp only [List.map_toArray, List.map_cons, List.map_nil]); first | done | rfl | (simp only [List.length_drop, List.length_take]; rfl)) ?_; (with_reducible refine (glyph_Uni.calls k (⟨#[100, 97, 108, 101, 116, 104, 97, 116, 97, 102, 112, 97, 116, 97, 104]⟩ : ByteArray) t169 t170 _ ?side1 A2.out).mono ?_); (case side1 => exact GW.below (by repeat (first | (with_reducible first | exact HB.out | apply below_alloc | apply pw_below_drewN | apply below_drew1) | exact HB.out)) HG.out); rintro e w46 ⟨v171, rfl, ho0, hb⟩; refine ⟨_, rfl, ?_⟩; have n0_ := Aside0.mk (Kd.R_elder' (by (with_reducible repeat (first | apply Kd.R_alloc | apply Kd.R_drewN | apply Kd.R_drew)); exact HO168.out) (Kd.R_base ho0) hb); have n1_ := Aside0.mk (Kd.R_lower (Kd.R_new' ho0 (Kd.R_lt (by (with_reducible repeat (first | apply Kd.R_alloc | apply Kd.R_drewN | apply Kd.R_drew)); exact HO168.out))) (below_size (by repeat (first | (with_reducible first | exact HB.out | apply below_alloc | apply pw_below_drewN | apply below_drew1) | exact HB.out)))); have n2_ := Aside0.mk (below_step (by repeat (first | (with_reducible first | exact HB.out | apply below_alloc | apply pw_below_drewN | apply below_drew1) | exact HB.out)) hb); clear HO168; clear HB; have HO168 := n0_; have HO172 := n1_; have HB := n2_; clear n0_ n1_ n2_; (try clear hb); (try clear hb2); (try clear hk); (try clear hi); (try clear ho0)) | ((with_reducible refine gate_callee (f := 9) rfl ?_); refine goesL_ (some 16) rfl rfl Tryd.func9 (by kernel_rfl) rfl #[.int .i64 65] rfl (by (try simp only [List.map_toArray, List.map_cons, List.map_nil]); first | done | rfl | (simp only [List.length_drop, List.length_take]; rfl)) ?_; (with_reducible refine (glyph_Back.calls k 65 t173 t174 _ ?side1 A3.out).mono ?_); (case side1 => exact GW.below (by repeat (first | (with_reducible first | exact HB.out | apply below_alloc | apply pw_below_drewN | apply below_drew1) | exact HB.out)) HG.out); rintro e w47 ⟨rfl, hb⟩; refine ⟨_, rfl, ?_⟩; have n0_ := Aside0.mk (Kd.R_below (by (with_reducible repeat (first | apply Kd.R_alloc | apply Kd.R_drewN | apply Kd.R_drew)); exact HO168.out) hb); have n1_ := Aside0.mk (Kd.R_below (by (with_reducible repeat (first | apply Kd.R_alloc | apply Kd.R_drewN | apply Kd.R_drew)); exact HO172.out) hb); have n2_ := Aside0.mk (below_step (by repeat (first | (with_reducible first | exact HB.out | apply below_alloc | apply pw_below_drewN | apply below_drew1) | exact HB.out)) hb); clear HO168; clear HO172; clear HB; have HO168 := n0_; have HO172 := n1_; have HB := n2_; clear n0_ n1_ n2_; (try clear hb); (try clear hb2); (try clear hk); (try clear hi); obtain ⟨Ao48, co48, eo48⟩ := Kd.R_slice HO168.out; subst eo48; have p175 : 0 ≤ (0 : Int) := (by omega); have q175 : 0 < (t165.length : Int) := of_decide_eq_true (by first | (with_reducible assumption) | assumption); obtain ⟨ad175, e175, hx175_0⟩ := Kd.at_int (Kd.R_reads' HO168.out).2.2 0 p175 q175; cases e175; have qi175 : (0 < t165.length) = True := eq_true (by omega); (try rw [show ((0 : Int)).toNat = 0 from rfl] at hx175_0); (try rw [Addr.add_zero'] at hx175_0); replace p175 := eq_true p175; replace q175 := eq_true q175))
     go_ret
     exact ⟨by first | rfl | (simp [errW_none, errW_some] <;> rfl) | (simp [*, errW_none, errW_some] <;> rfl), by repeat (first | (with_reducible first | exact HB.out | apply below_alloc | apply pw_below_drewN | apply below_drew1) | exact HB.out)⟩
   ·rw [if_neg c6] at H
    exact absurd H (by simp)
  ·rw [if_neg c5] at H
   have c5b0 : ((t165.length : Int) == 1) = false := beq_eq_false_iff_ne.mpr c5
   have c5b1 : ((t165.length : Int) != 1) = true := bne_iff_ne.mpr c5
   obtain rfl := Option.some.inj H
   go_enter Tryd.func6, Tryd.ntmps6
   go_wp2_with (first | ((with_reducible refine gate_callee (f := 7) rfl ?_); refine goesL_ (some 8) rfl rfl Tryd.func7 (by kernel_rfl) rfl #[.string (⟨#[65]⟩ : ByteArray)] rfl (by (try simp only [List.map_toArray, List.map_cons, List.map_nil]); first | done | rfl | (simp only [List.length_drop, List.length_take]; rfl)) ?_; (with_reducible refine (glyph_Uni.calls k (⟨#[65]⟩ : ByteArray) t165 true _ ?side1 A1.out).mono ?_); (case side1 => exact GW.below (by repeat (first | (with_reducible first | exact HB.out | apply below_alloc | apply pw_below_drewN | apply below_drew1) | exact HB.out)) HG.out); rintro e w49 ⟨v167, rfl, ho0, hb⟩; refine ⟨_, rfl, ?_⟩; have n0_ := Aside0.mk (Kd.R_lower ho0 (below_size (by repeat (first | (with_reducible first | exact HB.out | apply below_alloc | apply pw_below_drewN | apply below_drew1) | exact HB.out)))); have n1_ := Aside0.mk (below_step (by repeat (first | (with_reducible first | exact HB.out | apply below_alloc | apply pw_below_drewN | apply below_drew1) | exact HB.out)) hb); clear HB; have HO168 := n0_; have HB := n1_; clear n0_ n1_; (try clear hb); (try clear hb2); (try clear hk); (try clear hi); (try clear ho0)) | ((with_reducible refine gate_callee (f := 7) rfl ?_); refine goesL_ (some 12) rfl rfl Tryd.func7 (by kernel_rfl) rfl #[.string (⟨#[100, 97, 108, 101, 116, 104, 97, 116, 97, 102, 112, 97, 116, 97, 104]⟩ : ByteArray)] rfl (by (try simp only [List.map_toArray, List.map_cons, List.map_nil]); first | done | rfl | (simp only [List.length_drop, List.length_take]; rfl)) ?_; (with_reducible refine (glyph_Uni.calls k (⟨#[100, 97, 108, 101, 116, 104, 97, 116, 97, 102, 112, 97, 116, 97, 104]⟩ : ByteArray) t169 t170 _ ?side1 A2.out).mono ?_); (case side1 => exact GW.below (by repeat (first | (with_reducible first | exact HB.out | apply below_alloc | apply pw_below_drewN | apply below_drew1) | exact HB.out)) HG.out); rintro e w50 ⟨v171, rfl, ho0, hb⟩; refine ⟨_, rfl, ?_⟩; have n0_ := Aside0.mk (Kd.R_elder' (by (with_reducible repeat (first | apply Kd.R_alloc | apply Kd.R_drewN | apply Kd.R_drew)); exact HO168.out) (Kd.R_base ho0) hb); have n1_ := Aside0.mk (Kd.R_lower (Kd.R_new' ho0 (Kd.R_lt (by (with_reducible repeat (first | apply Kd.R_alloc | apply Kd.R_drewN | apply Kd.R_drew)); exact HO168.out))) (below_size (by repeat (first | (with_reducible first | exact HB.out | apply below_alloc | apply pw_below_drewN | apply below_drew1) | exact HB.out)))); have n2_ := Aside0.mk (below_step (by repeat (first | (with_reducible first | exact HB.out | apply below_alloc | apply pw_below_drewN | apply below_drew1) | exact HB.out)) hb); clear HO168; clear HB; have HO168 := n0_; have HO172 := n1_; have HB := n2_; clear n0_ n1_ n2_; (try clear hb); (try clear hb2); (try clear hk); (try clear hi); (try clear ho0)) | ((with_reducible refine gate_callee (f := 9) rfl ?_); refine goesL_ (some 16) rfl rfl Tryd.func9 (by kernel_rfl) rfl #[.int .i64 65] rfl (by (try simp only [List.map_toArray, List.map_cons, List.map_nil]); first | done | rfl | (simp only [List.length_drop, List.length_take]; rfl)) ?_; (with_reducible refine (glyph_Back.calls k 65 t173 t174 _ ?side1 A3.out).mono ?_); (case side1 => exact GW.below (by repeat (first | (with_reducible first | exact HB.out | apply below_alloc | apply pw_below_drewN | apply below_drew1) | exact HB.out)) HG.out); rintro e w51 ⟨rfl, hb⟩; refine ⟨_, rfl, ?_⟩; have n0_ := Aside0.mk (Kd.R_below (by (with_reducible repeat (first | apply Kd.R_alloc | apply Kd.R_drewN | apply Kd.R_drew)); exact HO168.out) hb); have n1_ := Aside0.mk (Kd.R_below (by (with_reducible repeat (first | apply Kd.R_alloc | apply Kd.R_drewN | apply Kd.R_drew)); exact HO172.out) hb); have n2_ := Aside0.mk (below_step (by repeat (first | (with_reducible first | exact HB.out | apply below_alloc | apply pw_below_drewN | apply below_drew1) | exact HB.out)) hb); clear HO168; clear HO172; clear HB; have HO168 := n0_; have HO172 := n1_; have HB := n2_; clear n0_ n1_ n2_; (try clear hb); (try clear hb2); (try clear hk); (try clear hi); obtain ⟨Ao52, co52, eo52⟩ := Kd.R_slice HO168.out; subst eo52))
   go_ret
   exact ⟨by first | rfl | (simp [errW_none, errW_some] <;> rfl) | (simp [*, errW_none, errW_some] <;> rfl), by repeat (first | (with_reducible first | exact HB.out | apply below_alloc | apply pw_below_drewN | apply below_drew1) | exact HB.out)⟩
 ·replace c4 := Bool.eq_false_iff.mpr c4
  subst c4
  have H1 : (some false) = some r := by rw [if_neg (show ¬ (false = true) by decide)] at H; exact H
  clear H
  have H := H1
  clear H1
  obtain rfl := Option.some.inj H
  go_enter Tryd.func6, Tryd.ntmps6
  go_wp2_with (first | ((with_reducible refine gate_callee (f := 7) rfl ?_); refine goesL_ (some 8) rfl rfl Tryd.func7 (by kernel_rfl) rfl #[.string (⟨#[65]⟩ : ByteArray)] rfl (by (try simp only [List.map_toArray, List.map_cons, List.map_nil]); first | done | rfl | (simp only [List.length_drop, List.length_take]; rfl)) ?_; (with_reducible refine (glyph_Uni.calls k (⟨#[65]⟩ : ByteArray) t165 false _ ?side1 A1.out).mono ?_); (case side1 => exact GW.below (by repeat (first | (with_reducible first | exact HB.out | apply below_alloc | apply pw_below_drewN | apply below_drew1) | exact HB.out)) HG.out); rintro e w53 ⟨v167, rfl, ho0, hb⟩; refine ⟨_, rfl, ?_⟩; have n0_ := Aside0.mk (Kd.R_lower ho0 (below_size (by repeat (first | (with_reducible first | exact HB.out | apply below_alloc | apply pw_below_drewN | apply below_drew1) | exact HB.out)))); have n1_ := Aside0.mk (below_step (by repeat (first | (with_reducible first | exact HB.out | apply below_alloc | apply pw_below_drewN | apply below_drew1) | exact HB.out)) hb); clear HB; have HO168 := n0_; have HB := n1_; clear n0_ n1_; (try clear hb); (try clear hb2); (try clear hk); (try clear hi); (try clear ho0)) | ((with_reducible refine gate_callee (f := 7) rfl ?_); refine goesL_ (some 12) rfl rfl Tryd.func7 (by kernel_rfl) rfl #[.string (⟨#[100, 97, 108, 101, 116, 104, 97, 116, 97, 102, 112, 97, 116, 97, 104]⟩ : ByteArray)] rfl (by (try simp only [List.map_toArray, List.map_cons, List.map_nil]); first | done | rfl | (simp only [List.length_drop, List.length_take]; rfl)) ?_; (with_reducible refine (glyph_Uni.calls k (⟨#[100, 97, 108, 101, 116, 104, 97, 116, 97, 102, 112, 97, 116, 97, 104]⟩ : ByteArray) t169 t170 _ ?side1 A2.out).mono ?_); (case side1 => exact GW.below (by repeat (first | (with_reducible first | exact HB.out | apply below_alloc | apply pw_below_drewN | apply below_drew1) | exact HB.out)) HG.out); rintro e w54 ⟨v171, rfl, ho0, hb⟩; refine ⟨_, rfl, ?_⟩; have n0_ := Aside0.mk (Kd.R_elder' (by (with_reducible repeat (first | apply Kd.R_alloc | apply Kd.R_drewN | apply Kd.R_drew)); exact HO168.out) (Kd.R_base ho0) hb); have n1_ := Aside0.mk (Kd.R_lower (Kd.R_new' ho0 (Kd.R_lt (by (with_reducible repeat (first | apply Kd.R_alloc | apply Kd.R_drewN | apply Kd.R_drew)); exact HO168.out))) (below_size (by repeat (first | (with_reducible first | exact HB.out | apply below_alloc | apply pw_below_drewN | apply below_drew1) | exact HB.out)))); have n2_ := Aside0.mk (below_step (by repeat (first | (with_reducible first | exact HB.out | apply below_alloc | apply pw_below_drewN | apply below_drew1) | exact HB.out)) hb); clear HO168; clear HB; have HO168 := n0_; have HO172 := n1_; have HB := n2_; clear n0_ n1_ n2_; (try clear hb); (try clear hb2); (try clear hk); (try clear hi); (try clear ho0)) | ((with_reducible refine gate_callee (f := 9) rfl ?_); refine goesL_ (some 16) rfl rfl Tryd.func9 (by kernel_rfl) rfl #[.int .i64 65] rfl (by (try simp only [List.map_toArray, List.map_cons, List.map_nil]); first | done | rfl | (simp only [List.length_drop, List.length_take]; rfl)) ?_; (with_reducible refine (glyph_Back.calls k 65 t173 t174 _ ?side1 A3.out).mono ?_); (case side1 => exact GW.below (by repeat (first | (with_reducible first | exact HB.out | apply below_alloc | apply pw_below_drewN | apply below_drew1) | exact HB.out)) HG.out); rintro e w55 ⟨rfl, hb⟩; refine ⟨_, rfl, ?_⟩; have n0_ := Aside0.mk (Kd.R_below (by (with_reducible repeat (first | apply Kd.R_alloc | apply Kd.R_drewN | apply Kd.R_drew)); exact HO168.out) hb); have n1_ := Aside0.mk (Kd.R_below (by (with_reducible repeat (first | apply Kd.R_alloc | apply Kd.R_drewN | apply Kd.R_drew)); exact HO172.out) hb); have n2_ := Aside0.mk (below_step (by repeat (first | (with_reducible first | exact HB.out | apply below_alloc | apply pw_below_drewN | apply below_drew1) | exact HB.out)) hb); clear HO168; clear HO172; clear HB; have HO168 := n0_; have HO172 := n1_; have HB := n2_; clear n0_ n1_ n2_; (try clear hb); (try clear hb2); (try clear hk); (try clear hi)))
  go_ret
  exact ⟨by first | rfl | (simp [errW_none, errW_some] <;> rfl) | (simp [*, errW_none, errW_some] <;> rfl), by repeat (first | (with_reducible first | exact HB.out | apply below_alloc | apply pw_below_drewN | apply below_drew1) | exact HB.out)⟩
end Go.Proofs.YtdbadfcekomomaaDoor.M
end
section
/- Laid by this session's program hbprint.py out of the translation: the function hornbook/hornbooklaw14.GlyphAscii and its contract. -/
namespace Go.Proofs.YtdbadfcekomomaaDoor.M
open Go.RowKit Go.Proofs.YtdbadfcekomomaaDoorW.PrintWords Go.Proofs.YtdbadfcekomomaaDoorW.PrintLast Go.Proofs.YtdbadfcekomomaaDoorW.PrintMore
attribute [local go_sem] max2_int min2_int max_two min_two max_three min_three max_four min_four
set_option linter.unusedVariables false
set_option linter.unusedSimpArgs false
def hornbooklaw14_GlyphAscii.l0 : Nat → Int → Bool → Int → Int → Option (Bool)
 | 0, _, _, _, _ => none
 | k + 1, x0, x3, x4, x5 => if x5 < 2 then ((utf_Text.f (([wrap64 ((wrap64 (65 + x4)) + (wrap64 (32 * x5)))] : List Int))).bind fun t249 => ((glyph_Uni.f k t249).bind fun bt250 => ((glyph_Back.f k (wrap64 ((wrap64 (65 + x4)) + (wrap64 (32 * x5))))).bind fun bt254 => (if bt250.2 = true then (if (bt250.1.length : Int) = 1 then (if 0 < (bt250.1.length : Int) then (if (rd bt250.1 0) = (wrap64 ((wrap64 (65 + x4)) + (wrap64 (32 * x5)))) then (if bt254.2 = true then (if bt254.1.toList = t249.toList then (hornbooklaw14_GlyphAscii.l0 k x0 x3 x4 (wrap64 (x5 + 1))) else (some false)) else (some false)) else (some false)) else (none)) else (some false)) else (some false))))) else ((glyph_Names.f k).bind fun t257 => (if (t257.length : Int) < 95 then (some false) else (if 0 ≤ (Int.tmod (Go.bits .and .i64 x0 65535) 95) then (if (Int.tmod (Go.bits .and .i64 x0 65535) 95) < (t257.length : Int) then ((glyph_Uni.f k (rdOf ByteArray.empty t257 (Int.tmod (Go.bits .and .i64 x0 65535) 95))).bind fun bt261 => (if x3 = true then (if bt261.2 = true then (if (bt261.1.length : Int) = 1 then (if 0 < (bt261.1.length : Int) then (some ((rd bt261.1 0) == (wrap64 (32 + (Int.tmod (Go.bits .and .i64 x0 65535) 95))))) else (none)) else (some false)) else (some false)) else (some false))) else (none)) else (none))))
def hornbooklaw14_GlyphAscii.f (k : Nat) (a0 : Int) : Option (Bool) := (hornbooklaw14_awake.f k).bind fun t245 => (hornbooklaw14_GlyphAscii.l0 k a0 t245 (Int.tmod (Go.bits .and .i64 a0 65535) 26) 0)
set_option maxHeartbeats 8000000 in
set_option maxRecDepth 100000 in
theorem hornbooklaw14_GlyphAscii.calls (k : Nat) (a0 : Int) (r : Bool) (w : World) (hG : GW w) (h : hornbooklaw14_GlyphAscii.f k a0 = some r) :
  Calls Tryd.prog 5 #[.int .i64 a0] w fun e w' => e = .returned (.bool r) ∧ Below w.heap.size w w' := by
 have HG := Aside0.mk hG
 clear hG
 have HB := Aside0.mk (Below.refl w.heap.size w)
 have H : ((hornbooklaw14_awake.f k).bind fun t245 => (hornbooklaw14_GlyphAscii.l0 k a0 t245 (Int.tmod (Go.bits .and .i64 a0 65535) 26) 0)) = some r := h
 clear h
 replace H := Option.bind_eq_some_iff.mp H
 obtain ⟨t245, A20, H⟩ := H
 replace H : (hornbooklaw14_GlyphAscii.l0 k a0 t245 (Int.tmod (Go.bits .and .i64 a0 65535) 26) 0) = some r := H
 have A2 := Aside0.mk A20
 clear A20
 have H' := Aside0.mk H
 clear H
 go_enter Tryd.func5, Tryd.ntmps5
 go_wp2_with (first | ((with_reducible refine gate_callee (f := 6) rfl ?_); refine goesL_ (some 16) rfl rfl Tryd.func6 (by kernel_rfl) rfl #[] rfl (by (try simp only [List.map_toArray, List.map_cons, List.map_nil]); first | done | rfl | (simp only [List.length_drop, List.length_take]; rfl)) ?_; (with_reducible refine (hornbooklaw14_awake.calls k  t245 _ ?side1 A2.out).mono ?_); (case side1 => exact GW.below (by repeat (first | (with_reducible first | exact HB.out | apply below_alloc | apply pw_below_drewN | apply below_drew1) | exact HB.out)) HG.out); rintro e w3 ⟨rfl, hb⟩; refine ⟨_, rfl, ?_⟩; have n0_ := Aside0.mk (below_step (by repeat (first | (with_reducible first | exact HB.out | apply below_alloc | apply pw_below_drewN | apply below_drew1) | exact HB.out)) hb); clear HB; have HB := n0_; clear n0_; (try clear hb); (try clear hb2); (try clear hk); (try clear hi)))
 go_loopg [5] k (fun kq v5 w' => ∃ (x5_1 : Int), v5 = .int .i64 x5_1 ∧ Aside0 (hornbooklaw14_GlyphAscii.l0 kq a0 t245 (Int.tmod (Go.bits .and .i64 a0 65535) 26) x5_1 = some r) ∧ Aside0 (kq ≤ k) ∧ Aside0 (Below w.heap.size w w'))
 case atStart => exact ⟨(0), (by first | rfl | (simp; done) | (simp [*]; done)), H', ⟨Nat.le_refl _⟩, ⟨by repeat (first | (with_reducible first | exact HB.out | apply below_alloc | apply pw_below_drewN | apply below_drew1) | exact HB.out)⟩⟩
 case round =>
  clear H'
  try clear p2
  obtain ⟨x5_1, rfl, HA, HK1, HB⟩ := hrel
  cases gk with
  | zero => exact absurd HA.out (by simp [hornbooklaw14_GlyphAscii.l0])
  | succ k1 =>
   have H := HA.out
   clear HA
   simp only [hornbooklaw14_GlyphAscii.l0] at H
   by_cases c4 : x5_1 < 2
   ·rw [if_pos c4] at H
    have c4b0 : decide (x5_1 < 2) = true := decide_eq_true c4
    clear c4
    obtain ⟨y246, hy246⟩ : ∃ y_ : List Int, y_ = (([wrap64 ((wrap64 (65 + (Int.tmod (Go.bits .and .i64 a0 65535) 26))) + (wrap64 (32 * x5_1)))] : List Int)) := ⟨_, rfl⟩
    replace H : ((utf_Text.f y246).bind fun t249 => ((glyph_Uni.f k1 t249).bind fun bt250 => ((glyph_Back.f k1 (wrap64 ((wrap64 (65 + (Int.tmod (Go.bits .and .i64 a0 65535) 26))) + (wrap64 (32 * x5_1))))).bind fun bt254 => (if bt250.2 = true then (if (bt250.1.length : Int) = 1 then (if 0 < (bt250.1.length : Int) then (if (rd bt250.1 0) = (wrap64 ((wrap64 (65 + (Int.tmod (Go.bits .and .i64 a0 65535) 26))) + (wrap64 (32 * x5_1)))) then (if bt254.2 = true then (if bt254.1.toList = t249.toList then (hornbooklaw14_GlyphAscii.l0 k1 a0 t245 (Int.tmod (Go.bits .and .i64 a0 65535) 26) (wrap64 (x5_1 + 1))) else (some false)) else (some false)) else (some false)) else (none)) else (some false)) else (some false))))) = some r := by first | (rw [hy246]; with_reducible exact H) | (have H2_ := (Option.bind_some _ _).symm.trans H; rw [hy246]; with_reducible exact H2_) | (have H2_ := (Option.bind_some _ _).symm.trans H; with_reducible exact H2_) | with_reducible exact H | (rw [hy246]; exact H) | exact H
    have Ny246 := Aside0.mk hy246
    clear hy246
    replace H := Option.bind_eq_some_iff.mp H
    obtain ⟨t249, A50, H⟩ := H
    replace H : ((glyph_Uni.f k1 t249).bind fun bt250 => ((glyph_Back.f k1 (wrap64 ((wrap64 (65 + (Int.tmod (Go.bits .and .i64 a0 65535) 26))) + (wrap64 (32 * x5_1))))).bind fun bt254 => (if bt250.2 = true then (if (bt250.1.length : Int) = 1 then (if 0 < (bt250.1.length : Int) then (if (rd bt250.1 0) = (wrap64 ((wrap64 (65 + (Int.tmod (Go.bits .and .i64 a0 65535) 26))) + (wrap64 (32 * x5_1)))) then (if bt254.2 = true then (if bt254.1.toList = t249.toList then (hornbooklaw14_GlyphAscii.l0 k1 a0 t245 (Int.tmod (Go.bits .and .i64 a0 65535) 26) (wrap64 (x5_1 + 1))) else (some false)) else (some false)) else (some false)) else (none)) else (some false)) else (some false)))) = some r := H
    have A5 := Aside0.mk A50
    clear A50
    replace H := Option.bind_eq_some_iff.mp H
    obtain ⟨⟨t250, t251⟩, A60, H⟩ := H
    replace H : ((glyph_Back.f k1 (wrap64 ((wrap64 (65 + (Int.tmod (Go.bits .and .i64 a0 65535) 26))) + (wrap64 (32 * x5_1))))).bind fun bt254 => (if t251 = true then (if (t250.length : Int) = 1 then (if 0 < (t250.length : Int) then (if (rd t250 0) = (wrap64 ((wrap64 (65 + (Int.tmod (Go.bits .and .i64 a0 65535) 26))) + (wrap64 (32 * x5_1)))) then (if bt254.2 = true then (if bt254.1.toList = t249.toList then (hornbooklaw14_GlyphAscii.l0 k1 a0 t245 (Int.tmod (Go.bits .and .i64 a0 65535) 26) (wrap64 (x5_1 + 1))) else (some false)) else (some false)) else (some false)) else (none)) else (some false)) else (some false))) = some r := H
    have A6 := Aside0.mk A60
    clear A60
    replace H := Option.bind_eq_some_iff.mp H
    obtain ⟨⟨t254, t255⟩, A70, H⟩ := H
    replace H : (if t251 = true then (if (t250.length : Int) = 1 then (if 0 < (t250.length : Int) then (if (rd t250 0) = (wrap64 ((wrap64 (65 + (Int.tmod (Go.bits .and .i64 a0 65535) 26))) + (wrap64 (32 * x5_1)))) then (if t255 = true then (if t254.toList = t249.toList then (hornbooklaw14_GlyphAscii.l0 k1 a0 t245 (Int.tmod (Go.bits .and .i64 a0 65535) 26) (wrap64 (x5_1 + 1))) else (some false)) else (some false)) else (some false)) else (none)) else (some false)) else (some false)) = some r := H
    have A7 := Aside0.mk A70
    clear A70
    by_cases c8 : t251 = true
    ·subst c8
     have H1 : (if (t250.length : Int) = 1 then (if 0 < (t250.length : Int) then (if (rd t250 0) = (wrap64 ((wrap64 (65 + (Int.tmod (Go.bits .and .i64 a0 65535) 26))) + (wrap64 (32 * x5_1)))) then (if t255 = true then (if t254.toList = t249.toList then (hornbooklaw14_GlyphAscii.l0 k1 a0 t245 (Int.tmod (Go.bits .and .i64 a0 65535) 26) (wrap64 (x5_1 + 1))) else (some false)) else (some false)) else (some false)) else (none)) else (some false)) = some r := by rw [if_pos rfl] at H; exact H
     clear H
     have H := H1
     clear H1
     by_cases c9 : (t250.length : Int) = 1
     ·rw [if_pos c9] at H
      have c9b0 : ((t250.length : Int) == 1) = true := beq_iff_eq.mpr c9
      have c9b1 : ((t250.length : Int) != 1) = false := bne_eq_false_iff_eq.mpr c9
      clear c9
      by_cases c10 : 0 < (t250.length : Int)
      ·rw [if_pos c10] at H
       have c10b0 : decide (0 < (t250.length : Int)) = true := decide_eq_true c10
       have c10b1 : decide (0 < t250.length) = true := decide_eq_true (by omega)
       clear c10
       by_cases c11 : (rd t250 0) = (wrap64 ((wrap64 (65 + (Int.tmod (Go.bits .and .i64 a0 65535) 26))) + (wrap64 (32 * x5_1))))
       ·rw [if_pos c11] at H
        have c11b0 : ((rd t250 0) == (wrap64 ((wrap64 (65 + (Int.tmod (Go.bits .and .i64 a0 65535) 26))) + (wrap64 (32 * x5_1))))) = true := beq_iff_eq.mpr c11
        have c11b1 : ((rd t250 0) != (wrap64 ((wrap64 (65 + (Int.tmod (Go.bits .and .i64 a0 65535) 26))) + (wrap64 (32 * x5_1))))) = false := bne_eq_false_iff_eq.mpr c11
        clear c11
        by_cases c12 : t255 = true
        ·subst c12
         have H1 : (if t254.toList = t249.toList then (hornbooklaw14_GlyphAscii.l0 k1 a0 t245 (Int.tmod (Go.bits .and .i64 a0 65535) 26) (wrap64 (x5_1 + 1))) else (some false)) = some r := by rw [if_pos rfl] at H; exact H
         clear H
         have H := H1
         clear H1
         by_cases c13 : t254.toList = t249.toList
         ·rw [if_pos c13] at H
          have c13b0 : (t254.toList == t249.toList) = true := beq_iff_eq.mpr c13
          have c13b1 : (t254.toList != t249.toList) = false := bne_eq_false_iff_eq.mpr c13
          clear c13
          have H' := Aside0.mk H
          clear H
          go_wp2_with (first | ((with_reducible refine gate_dst (N := 30) rfl ?_); (try (refine gate_guard (by rfl) ?_; dsimp only)); refine Kd.R_lit (Kd.int .i64) _ 3 ?hg (N := 30) ?hd (xs := ([wrap64 ((wrap64 (65 + (Int.tmod (Go.bits .and .i64 a0 65535) 26))) + (wrap64 (32 * x5_1)))] : List Int)) (inner := [.int .i64 (wrap64 ((wrap64 (65 + (Int.tmod (Go.bits .and .i64 a0 65535) 26))) + (wrap64 (32 * x5_1))))]) (ok := fun _ => True) (okp := fun _ => True) ?hr ?hp (fun _ hk => hk) trivial (Below.refl _ _) (Nat.le_refl _) (by simp) ?_; (case hd => rfl); (case hg => rfl); (case hr => first | (go_simp; done) | (go_simp; rfl)); (case hp => exact (Reps.one (show Kd.M (Kd.int .i64) _ _ _ (wrap64 ((wrap64 (65 + (Int.tmod (Go.bits .and .i64 a0 65535) 26))) + (wrap64 (32 * x5_1)))) [.int .i64 (wrap64 ((wrap64 (65 + (Int.tmod (Go.bits .and .i64 a0 65535) 26))) + (wrap64 (32 * x5_1))))] from rfl) (Reps.none _ _))); intro v247 w14 ho15 hb hg_ hnew_; clear hg_ hnew_; (first | rw [← Ny246.out] at ho15 | (simp only [Int.reduceToNat] at ho15; rw [← Ny246.out] at ho15)); have n0_ := Aside0.mk (Kd.R_lower ho15 (below_size (by repeat (first | (with_reducible first | exact HB.out | apply below_alloc | apply pw_below_drewN | apply below_drew1) | exact HB.out)))); have n1_ := Aside0.mk (below_step (by repeat (first | (with_reducible first | exact HB.out | apply below_alloc | apply pw_below_drewN | apply below_drew1) | exact HB.out)) hb); clear HB; have HO248 := n0_; have HB := n1_; clear n0_ n1_; clear hb ho15; obtain ⟨Ao16, co16, eo16⟩ := Kd.R_slice HO248.out; subst eo16) | ((with_reducible refine gate_callee (f := 16) rfl ?_); refine goesL_ (some 31) rfl rfl Tryd.func16 (by kernel_rfl) rfl #[.slice Ao16 y246.length co16] rfl (by (try simp only [List.map_toArray, List.map_cons, List.map_nil]); first | done | rfl | (simp only [List.length_drop, List.length_take]; rfl)) ?_; (with_reducible refine (utf_Text.calls _ _ y246 t249 _ ?side1 ?side2 A5.out).mono ?_); (case side1 => repeat (first | exact (Kd.R_reads' HO248.out).2.2 | (with_reducible refine Kd.C_alloc ?_ _) | (with_reducible refine Kd.C_drewN ?_ _) | (with_reducible refine Kd.C_drew ?_))); (case side2 => exact (Kd.R_reads' HO248.out).2.1); rintro e w17 ⟨rfl, hb⟩; refine ⟨_, rfl, ?_⟩; have n0_ := Aside0.mk (Kd.R_below (by (with_reducible repeat (first | apply Kd.R_alloc | apply Kd.R_drewN | apply Kd.R_drew)); exact HO248.out) hb); have n1_ := Aside0.mk (below_step (by repeat (first | (with_reducible first | exact HB.out | apply below_alloc | apply pw_below_drewN | apply below_drew1) | exact HB.out)) hb); clear HO248; clear HB; have HO248 := n0_; have HB := n1_; clear n0_ n1_; (try clear hb); (try clear hb2); (try clear hk); (try clear hi)) | ((with_reducible refine gate_callee (f := 7) rfl ?_); refine goesL_ (some 34) rfl rfl Tryd.func7 (by kernel_rfl) rfl #[.string t249] rfl (by (try simp only [List.map_toArray, List.map_cons, List.map_nil]); first | done | rfl | (simp only [List.length_drop, List.length_take]; rfl)) ?_; (with_reducible refine (glyph_Uni.calls k1 t249 t250 true _ ?side1 A6.out).mono ?_); (case side1 => exact GW.below (by repeat (first | (with_reducible first | exact HB.out | apply below_alloc | apply pw_below_drewN | apply below_drew1) | exact HB.out)) HG.out); rintro e w18 ⟨v252, rfl, ho0, hb⟩; refine ⟨_, rfl, ?_⟩; have n0_ := Aside0.mk (Kd.R_elder' (by (with_reducible repeat (first | apply Kd.R_alloc | apply Kd.R_drewN | apply Kd.R_drew)); exact HO248.out) (Kd.R_base ho0) hb); have n1_ := Aside0.mk (Kd.R_lower (Kd.R_new' ho0 (Kd.R_lt (by (with_reducible repeat (first | apply Kd.R_alloc | apply Kd.R_drewN | apply Kd.R_drew)); exact HO248.out))) (below_size (by repeat (first | (with_reducible first | exact HB.out | apply below_alloc | apply pw_below_drewN | apply below_drew1) | exact HB.out)))); have n2_ := Aside0.mk (below_step (by repeat (first | (with_reducible first | exact HB.out | apply below_alloc | apply pw_below_drewN | apply below_drew1) | exact HB.out)) hb); clear HO248; clear HB; have HO248 := n0_; have HO253 := n1_; have HB := n2_; clear n0_ n1_ n2_; (try clear hb); (try clear hb2); (try clear hk); (try clear hi); (try clear ho0)) | ((with_reducible refine gate_callee (f := 9) rfl ?_); refine goesL_ (some 39) rfl rfl Tryd.func9 (by kernel_rfl) rfl #[.int .i64 (wrap64 ((wrap64 (65 + (Int.tmod (Go.bits .and .i64 a0 65535) 26))) + (wrap64 (32 * x5_1))))] rfl (by (try simp only [List.map_toArray, List.map_cons, List.map_nil]); first | done | rfl | (simp only [List.length_drop, List.length_take]; rfl)) ?_; (with_reducible refine (glyph_Back.calls k1 (wrap64 ((wrap64 (65 + (Int.tmod (Go.bits .and .i64 a0 65535) 26))) + (wrap64 (32 * x5_1)))) t254 true _ ?side1 A7.out).mono ?_); (case side1 => exact GW.below (by repeat (first | (with_reducible first | exact HB.out | apply below_alloc | apply pw_below_drewN | apply below_drew1) | exact HB.out)) HG.out); rintro e w19 ⟨rfl, hb⟩; refine ⟨_, rfl, ?_⟩; have n0_ := Aside0.mk (Kd.R_below (by (with_reducible repeat (first | apply Kd.R_alloc | apply Kd.R_drewN | apply Kd.R_drew)); exact HO248.out) hb); have n1_ := Aside0.mk (Kd.R_below (by (with_reducible repeat (first | apply Kd.R_alloc | apply Kd.R_drewN | apply Kd.R_drew)); exact HO253.out) hb); have n2_ := Aside0.mk (below_step (by repeat (first | (with_reducible first | exact HB.out | apply below_alloc | apply pw_below_drewN | apply below_drew1) | exact HB.out)) hb); clear HO248; clear HO253; clear HB; have HO248 := n0_; have HO253 := n1_; have HB := n2_; clear n0_ n1_ n2_; (try clear hb); (try clear hb2); (try clear hk); (try clear hi); obtain ⟨Ao20, co20, eo20⟩ := Kd.R_slice HO253.out; subst eo20; have p256 : 0 ≤ (0 : Int) := (by omega); have q256 : 0 < (t250.length : Int) := of_decide_eq_true (by first | (with_reducible assumption) | assumption); obtain ⟨ad256, e256, hx256_0⟩ := Kd.at_int (Kd.R_reads' HO253.out).2.2 0 p256 q256; cases e256; have qi256 : (0 < t250.length) = True := eq_true (by omega); (try rw [show ((0 : Int)).toNat = 0 from rfl] at hx256_0); (try rw [Addr.add_zero'] at hx256_0); replace p256 := eq_true p256; replace q256 := eq_true q256))
          go_roundg k1
          case measure => have := HK1.out; omega
          case rel => exact ⟨(wrap64 (x5_1 + 1)), (by first | rfl | (simp; done) | (simp [*]; done)), H', ⟨by have := HK1.out; omega⟩, ⟨by repeat (first | (with_reducible first | exact HB.out | apply below_alloc | apply pw_below_drewN | apply below_drew1) | exact HB.out)⟩⟩
         ·rw [if_neg c13] at H
          have c13b0 : (t254.toList == t249.toList) = false := beq_eq_false_iff_ne.mpr c13
          have c13b1 : (t254.toList != t249.toList) = true := bne_iff_ne.mpr c13
          obtain rfl := Option.some.inj H
          go_wp2_with (first | ((with_reducible refine gate_dst (N := 30) rfl ?_); (try (refine gate_guard (by rfl) ?_; dsimp only)); refine Kd.R_lit (Kd.int .i64) _ 3 ?hg (N := 30) ?hd (xs := ([wrap64 ((wrap64 (65 + (Int.tmod (Go.bits .and .i64 a0 65535) 26))) + (wrap64 (32 * x5_1)))] : List Int)) (inner := [.int .i64 (wrap64 ((wrap64 (65 + (Int.tmod (Go.bits .and .i64 a0 65535) 26))) + (wrap64 (32 * x5_1))))]) (ok := fun _ => True) (okp := fun _ => True) ?hr ?hp (fun _ hk => hk) trivial (Below.refl _ _) (Nat.le_refl _) (by simp) ?_; (case hd => rfl); (case hg => rfl); (case hr => first | (go_simp; done) | (go_simp; rfl)); (case hp => exact (Reps.one (show Kd.M (Kd.int .i64) _ _ _ (wrap64 ((wrap64 (65 + (Int.tmod (Go.bits .and .i64 a0 65535) 26))) + (wrap64 (32 * x5_1)))) [.int .i64 (wrap64 ((wrap64 (65 + (Int.tmod (Go.bits .and .i64 a0 65535) 26))) + (wrap64 (32 * x5_1))))] from rfl) (Reps.none _ _))); intro v247 w21 ho22 hb hg_ hnew_; clear hg_ hnew_; (first | rw [← Ny246.out] at ho22 | (simp only [Int.reduceToNat] at ho22; rw [← Ny246.out] at ho22)); have n0_ := Aside0.mk (Kd.R_lower ho22 (below_size (by repeat (first | (with_reducible first | exact HB.out | apply below_alloc | apply pw_below_drewN | apply below_drew1) | exact HB.out)))); have n1_ := Aside0.mk (below_step (by repeat (first | (with_reducible first | exact HB.out | apply below_alloc | apply pw_below_drewN | apply below_drew1) | exact HB.out)) hb); clear HB; have HO248 := n0_; have HB := n1_; clear n0_ n1_; clear hb ho22; obtain ⟨Ao23, co23, eo23⟩ := Kd.R_slice HO248.out; subst eo23) | ((with_reducible refine gate_callee (f := 16) rfl ?_); refine goesL_ (some 31) rfl rfl Tryd.func16 (by kernel_rfl) rfl #[.slice Ao23 y246.length co23] rfl (by (try simp only [List.map_toArray, List.map_cons, List.map_nil]); first | done | rfl | (simp only [List.length_drop, List.length_take]; rfl)) ?_; (with_reducible refine (utf_Text.calls _ _ y246 t249 _ ?side1 ?side2 A5.out).mono ?_); (case side1 => repeat (first | exact (Kd.R_reads' HO248.out).2.2 | (with_reducible refine Kd.C_alloc ?_ _) | (with_reducible refine Kd.C_drewN ?_ _) | (with_reducible refine Kd.C_drew ?_))); (case side2 => exact (Kd.R_reads' HO248.out).2.1); rintro e w24 ⟨rfl, hb⟩; refine ⟨_, rfl, ?_⟩; have n0_ := Aside0.mk (Kd.R_below (by (with_reducible repeat (first | apply Kd.R_alloc | apply Kd.R_drewN | apply Kd.R_drew)); exact HO248.out) hb); have n1_ := Aside0.mk (below_step (by repeat (first | (with_reducible first | exact HB.out | apply below_alloc | apply pw_below_drewN | apply below_drew1) | exact HB.out)) hb); clear HO248; clear HB; have HO248 := n0_; have HB := n1_; clear n0_ n1_; (try clear hb); (try clear hb2); (try clear hk); (try clear hi)) | ((with_reducible refine gate_callee (f := 7) rfl ?_); refine goesL_ (some 34) rfl rfl Tryd.func7 (by kernel_rfl) rfl #[.string t249] rfl (by (try simp only [List.map_toArray, List.map_cons, List.map_nil]); first | done | rfl | (simp only [List.length_drop, List.length_take]; rfl)) ?_; (with_reducible refine (glyph_Uni.calls k1 t249 t250 true _ ?side1 A6.out).mono ?_); (case side1 => exact GW.below (by repeat (first | (with_reducible first | exact HB.out | apply below_alloc | apply pw_below_drewN | apply below_drew1) | exact HB.out)) HG.out); rintro e w25 ⟨v252, rfl, ho0, hb⟩; refine ⟨_, rfl, ?_⟩; have n0_ := Aside0.mk (Kd.R_elder' (by (with_reducible repeat (first | apply Kd.R_alloc | apply Kd.R_drewN | apply Kd.R_drew)); exact HO248.out) (Kd.R_base ho0) hb); have n1_ := Aside0.mk (Kd.R_lower (Kd.R_new' ho0 (Kd.R_lt (by (with_reducible repeat (first | apply Kd.R_alloc | apply Kd.R_drewN | apply Kd.R_drew)); exact HO248.out))) (below_size (by repeat (first | (with_reducible first | exact HB.out | apply below_alloc | apply pw_below_drewN | apply below_drew1) | exact HB.out)))); have n2_ := Aside0.mk (below_step (by repeat (first | (with_reducible first | exact HB.out | apply below_alloc | apply pw_below_drewN | apply below_drew1) | exact HB.out)) hb); clear HO248; clear HB; have HO248 := n0_; have HO253 := n1_; have HB := n2_; clear n0_ n1_ n2_; (try clear hb); (try clear hb2); (try clear hk); (try clear hi); (try clear ho0)) | ((with_reducible refine gate_callee (f := 9) rfl ?_); refine goesL_ (some 39) rfl rfl Tryd.func9 (by kernel_rfl) rfl #[.int .i64 (wrap64 ((wrap64 (65 + (Int.tmod (Go.bits .and .i64 a0 65535) 26))) + (wrap64 (32 * x5_1))))] rfl (by (try simp only [List.map_toArray, List.map_cons, List.map_nil]); first | done | rfl | (simp only [List.length_drop, List.length_take]; rfl)) ?_; (with_reducible refine (glyph_Back.calls k1 (wrap64 ((wrap64 (65 + (Int.tmod (Go.bits .and .i64 a0 65535) 26))) + (wrap64 (32 * x5_1)))) t254 true _ ?side1 A7.out).mono ?_); (case side1 => exact GW.below (by repeat (first | (with_reducible first | exact HB.out | apply below_alloc | apply pw_below_drewN | apply below_drew1) | exact HB.out)) HG.out); rintro e w26 ⟨rfl, hb⟩; refine ⟨_, rfl, ?_⟩; have n0_ := Aside0.mk (Kd.R_below (by (with_reducible repeat (first | apply Kd.R_alloc | apply Kd.R_drewN | apply Kd.R_drew)); exact HO248.out) hb); have n1_ := Aside0.mk (Kd.R_below (by (with_reducible repeat (first | apply Kd.R_alloc | apply Kd.R_drewN | apply Kd.R_drew)); exact HO253.out) hb); have n2_ := Aside0.mk (below_step (by repeat (first | (with_reducible first | exact HB.out | apply below_alloc | apply pw_below_drewN | apply below_drew1) | exact HB.out)) hb); clear HO248; clear HO253; clear HB; have HO248 := n0_; have HO253 := n1_; have HB := n2_; clear n0_ n1_ n2_; (try clear hb); (try clear hb2); (try clear hk); (try clear hi); obtain ⟨Ao27, co27, eo27⟩ := Kd.R_slice HO253.out; subst eo27; have p256 : 0 ≤ (0 : Int) := (by omega); have q256 : 0 < (t250.length : Int) := of_decide_eq_true (by first | (with_reducible assumption) | assumption); obtain ⟨ad256, e256, hx256_0⟩ := Kd.at_int (Kd.R_reads' HO253.out).2.2 0 p256 q256; cases e256; have qi256 : (0 < t250.length) = True := eq_true (by omega); (try rw [show ((0 : Int)).toNat = 0 from rfl] at hx256_0); (try rw [Addr.add_zero'] at hx256_0); replace p256 := eq_true p256; replace q256 := eq_true q256))
          go_ret
          exact ⟨by first | rfl | (simp [errW_none, errW_some] <;> rfl) | (simp [*, errW_none, errW_some] <;> rfl), by repeat (first | (with_reducible first | exact HB.out | apply below_alloc | apply pw_below_drewN | apply below_drew1) | exact HB.out)⟩
        ·replace c12 := Bool.eq_false_iff.mpr c12
         subst c12
         have H1 : (some false) = some r := by rw [if_neg (show ¬ (false = true) by decide)] at H; exact H
         clear H
         have H := H1
         clear H1
         obtain rfl := Option.some.inj H
         go_wp2_with (first | ((with_reducible refine gate_dst (N := 30) rfl ?_); (try (refine gate_guard (by rfl) ?_; dsimp only)); refine Kd.R_lit (Kd.int .i64) _ 3 ?hg (N := 30) ?hd (xs := ([wrap64 ((wrap64 (65 + (Int.tmod (Go.bits .and .i64 a0 65535) 26))) + (wrap64 (32 * x5_1)))] : List Int)) (inner := [.int .i64 (wrap64 ((wrap64 (65 + (Int.tmod (Go.bits .and .i64 a0 65535) 26))) + (wrap64 (32 * x5_1))))]) (ok := fun _ => True) (okp := fun _ => True) ?hr ?hp (fun _ hk => hk) trivial (Below.refl _ _) (Nat.le_refl _) (by simp) ?_; (case hd => rfl); (case hg => rfl); (case hr => first | (go_simp; done) | (go_simp; rfl)); (case hp => exact (Reps.one (show Kd.M (Kd.int .i64) _ _ _ (wrap64 ((wrap64 (65 + (Int.tmod (Go.bits .and .i64 a0 65535) 26))) + (wrap64 (32 * x5_1)))) [.int .i64 (wrap64 ((wrap64 (65 + (Int.tmod (Go.bits .and .i64 a0 65535) 26))) + (wrap64 (32 * x5_1))))] from rfl) (Reps.none _ _))); intro v247 w28 ho29 hb hg_ hnew_; clear hg_ hnew_; (first | rw [← Ny246.out] at ho29 | (simp only [Int.reduceToNat] at ho29; rw [← Ny246.out] at ho29)); have n0_ := Aside0.mk (Kd.R_lower ho29 (below_size (by repeat (first | (with_reducible first | exact HB.out | apply below_alloc | apply pw_below_drewN | apply below_drew1) | exact HB.out)))); have n1_ := Aside0.mk (below_step (by repeat (first | (with_reducible first | exact HB.out | apply below_alloc | apply pw_below_drewN | apply below_drew1) | exact HB.out)) hb); clear HB; have HO248 := n0_; have HB := n1_; clear n0_ n1_; clear hb ho29; obtain ⟨Ao30, co30, eo30⟩ := Kd.R_slice HO248.out; subst eo30) | ((with_reducible refine gate_callee (f := 16) rfl ?_); refine goesL_ (some 31) rfl rfl Tryd.func16 (by kernel_rfl) rfl #[.slice Ao30 y246.length co30] rfl (by (try simp only [List.map_toArray, List.map_cons, List.map_nil]); first | done | rfl | (simp only [List.length_drop, List.length_take]; rfl)) ?_; (with_reducible refine (utf_Text.calls _ _ y246 t249 _ ?side1 ?side2 A5.out).mono ?_); (case side1 => repeat (first | exact (Kd.R_reads' HO248.out).2.2 | (with_reducible refine Kd.C_alloc ?_ _) | (with_reducible refine Kd.C_drewN ?_ _) | (with_reducible refine Kd.C_drew ?_))); (case side2 => exact (Kd.R_reads' HO248.out).2.1); rintro e w31 ⟨rfl, hb⟩; refine ⟨_, rfl, ?_⟩; have n0_ := Aside0.mk (Kd.R_below (by (with_reducible repeat (first | apply Kd.R_alloc | apply Kd.R_drewN | apply Kd.R_drew)); exact HO248.out) hb); have n1_ := Aside0.mk (below_step (by repeat (first | (with_reducible first | exact HB.out | apply below_alloc | apply pw_below_drewN | apply below_drew1) | exact HB.out)) hb); clear HO248; clear HB; have HO248 := n0_; have HB := n1_; clear n0_ n1_; (try clear hb); (try clear hb2); (try clear hk); (try clear hi)) | ((with_reducible refine gate_callee (f := 7) rfl ?_); refine goesL_ (some 34) rfl rfl Tryd.func7 (by kernel_rfl) rfl #[.string t249] rfl (by (try simp only [List.map_toArray, List.map_cons, List.map_nil]); first | done | rfl | (simp only [List.length_drop, List.length_take]; rfl)) ?_; (with_reducible refine (glyph_Uni.calls k1 t249 t250 true _ ?side1 A6.out).mono ?_); (case side1 => exact GW.below (by repeat (first | (with_reducible first | exact HB.out | apply below_alloc | apply pw_below_drewN | apply below_drew1) | exact HB.out)) HG.out); rintro e w32 ⟨v252, rfl, ho0, hb⟩; refine ⟨_, rfl, ?_⟩; have n0_ := Aside0.mk (Kd.R_elder' (by (with_reducible repeat (first | apply Kd.R_alloc | apply Kd.R_drewN | apply Kd.R_drew)); exact HO248.out) (Kd.R_base ho0) hb); have n1_ := Aside0.mk (Kd.R_lower (Kd.R_new' ho0 (Kd.R_lt (by (with_reducible repeat (first | apply Kd.R_alloc | apply Kd.R_drewN | apply Kd.R_drew)); exact HO248.out))) (below_size (by repeat (first | (with_reducible first | exact HB.out | apply below_alloc | apply pw_below_drewN | apply below_drew1) | exact HB.out)))); have n2_ := Aside0.mk (below_step (by repeat (first | (with_reducible first | exact HB.out | apply below_alloc | apply pw_below_drewN | apply below_drew1) | exact HB.out)) hb); clear HO248; clear HB; have HO248 := n0_; have HO253 := n1_; have HB := n2_; clear n0_ n1_ n2_; (try clear hb); (try clear hb2); (try clear hk); (try clear hi); (try clear ho0)) | ((with_reducible refine gate_callee (f := 9) rfl ?_); refine goesL_ (some 39) rfl rfl Tryd.func9 (by kernel_rfl) rfl #[.int .i64 (wrap64 ((wrap64 (65 + (Int.tmod (Go.bits .and .i64 a0 65535) 26))) + (wrap64 (32 * x5_1))))] rfl (by (try simp only [List.map_toArray, List.map_cons, List.map_nil]); first | done | rfl | (simp only [List.length_drop, List.length_take]; rfl)) ?_; (with_reducible refine (glyph_Back.calls k1 (wrap64 ((wrap64 (65 + (Int.tmod (Go.bits .and .i64 a0 65535) 26))) + (wrap64 (32 * x5_1)))) t254 false _ ?side1 A7.out).mono ?_); (case side1 => exact GW.below (by repeat (first | (with_reducible first | exact HB.out | apply below_alloc | apply pw_below_drewN | apply below_drew1) | exact HB.out)) HG.out); rintro e w33 ⟨rfl, hb⟩; refine ⟨_, rfl, ?_⟩; have n0_ := Aside0.mk (Kd.R_below (by (with_reducible repeat (first | apply Kd.R_alloc | apply Kd.R_drewN | apply Kd.R_drew)); exact HO248.out) hb); have n1_ := Aside0.mk (Kd.R_below (by (with_reducible repeat (first | apply Kd.R_alloc | apply Kd.R_drewN | apply Kd.R_drew)); exact HO253.out) hb); have n2_ := Aside0.mk (below_step (by repeat (first | (with_reducible first | exact HB.out | apply below_alloc | apply pw_below_drewN | apply below_drew1) | exact HB.out)) hb); clear HO248; clear HO253; clear HB; have HO248 := n0_; have HO253 := n1_; have HB := n2_; clear n0_ n1_ n2_; (try clear hb); (try clear hb2); (try clear hk); (try clear hi); obtain ⟨Ao34, co34, eo34⟩ := Kd.R_slice HO253.out; subst eo34; have p256 : 0 ≤ (0 : Int) := (by omega); have q256 : 0 < (t250.length : Int) := of_decide_eq_true (by first | (with_reducible assumption) | assumption); obtain ⟨ad256, e256, hx256_0⟩ := Kd.at_int (Kd.R_reads' HO253.out).2.2 0 p256 q256; cases e256; have qi256 : (0 < t250.length) = True := eq_true (by omega); (try rw [show ((0 : Int)).toNat = 0 from rfl] at hx256_0); (try rw [Addr.add_zero'] at hx256_0); replace p256 := eq_true p256; replace q256 := eq_true q256))
         go_ret
         exact ⟨by first | rfl | (simp [errW_none, errW_some] <;> rfl) | (simp [*, errW_none, errW_some] <;> rfl), by repeat (first | (with_reducible first | exact HB.out | apply below_alloc | apply pw_below_drewN | apply below_drew1) | exact HB.out)⟩
       ·rw [if_neg c11] at H
        have c11b0 : ((rd t250 0) == (wrap64 ((wrap64 (65 + (Int.tmod (Go.bits .and .i64 a0 65535) 26))) + (wrap64 (32 * x5_1))))) = false := beq_eq_false_iff_ne.mpr c11
        have c11b1 : ((rd t250 0) != (wrap64 ((wrap64 (65 + (Int.tmod (Go.bits .and .i64 a0 65535) 26))) + (wrap64 (32 * x5_1))))) = true := bne_iff_ne.mpr c11
        obtain rfl := Option.some.inj H
        go_wp2_with (first | ((with_reducible refine gate_dst (N := 30) rfl ?_); (try (refine gate_guard (by rfl) ?_; dsimp only)); refine Kd.R_lit (Kd.int .i64) _ 3 ?hg (N := 30) ?hd (xs := ([wrap64 ((wrap64 (65 + (Int.tmod (Go.bits .and .i64 a0 65535) 26))) + (wrap64 (32 * x5_1)))] : List Int)) (inner := [.int .i64 (wrap64 ((wrap64 (65 + (Int.tmod (Go.bits .and .i64 a0 65535) 26))) + (wrap64 (32 * x5_1))))]) (ok := fun _ => True) (okp := fun _ => True) ?hr ?hp (fun _ hk => hk) trivial (Below.refl _ _) (Nat.le_refl _) (by simp) ?_; (case hd => rfl); (case hg => rfl); (case hr => first | (go_simp; done) | (go_simp; rfl)); (case hp => exact (Reps.one (show Kd.M (Kd.int .i64) _ _ _ (wrap64 ((wrap64 (65 + (Int.tmod (Go.bits .and .i64 a0 65535) 26))) + (wrap64 (32 * x5_1)))) [.int .i64 (wrap64 ((wrap64 (65 + (Int.tmod (Go.bits .and .i64 a0 65535) 26))) + (wrap64 (32 * x5_1))))] from rfl) (Reps.none _ _))); intro v247 w35 ho36 hb hg_ hnew_; clear hg_ hnew_; (first | rw [← Ny246.out] at ho36 | (simp only [Int.reduceToNat] at ho36; rw [← Ny246.out] at ho36)); have n0_ := Aside0.mk (Kd.R_lower ho36 (below_size (by repeat (first | (with_reducible first | exact HB.out | apply below_alloc | apply pw_below_drewN | apply below_drew1) | exact HB.out)))); have n1_ := Aside0.mk (below_step (by repeat (first | (with_reducible first | exact HB.out | apply below_alloc | apply pw_below_drewN | apply below_drew1) | exact HB.out)) hb); clear HB; have HO248 := n0_; have HB := n1_; clear n0_ n1_; clear hb ho36; obtain ⟨Ao37, co37, eo37⟩ := Kd.R_slice HO248.out; subst eo37) | ((with_reducible refine gate_callee (f := 16) rfl ?_); refine goesL_ (some 31) rfl rfl Tryd.func16 (by kernel_rfl) rfl #[.slice Ao37 y246.length co37] rfl (by (try simp only [List.map_toArray, List.map_cons, List.map_nil]); first | done | rfl | (simp only [List.length_drop, List.length_take]; rfl)) ?_; (with_reducible refine (utf_Text.calls _ _ y246 t249 _ ?side1 ?side2 A5.out).mono ?_); (case side1 => repeat (first | exact (Kd.R_reads' HO248.out).2.2 | (with_reducible refine Kd.C_alloc ?_ _) | (with_reducible refine Kd.C_drewN ?_ _) | (with_reducible refine Kd.C_drew ?_))); (case side2 => exact (Kd.R_reads' HO248.out).2.1); rintro e w38 ⟨rfl, hb⟩; refine ⟨_, rfl, ?_⟩; have n0_ := Aside0.mk (Kd.R_below (by (with_reducible repeat (first | apply Kd.R_alloc | apply Kd.R_drewN | apply Kd.R_drew)); exact HO248.out) hb); have n1_ := Aside0.mk (below_step (by repeat (first | (with_reducible first | exact HB.out | apply below_alloc | apply pw_below_drewN | apply below_drew1) | exact HB.out)) hb); clear HO248; clear HB; have HO248 := n0_; have HB := n1_; clear n0_ n1_; (try clear hb); (try clear hb2); (try clear hk); (try clear hi)) | ((with_reducible refine gate_callee (f := 7) rfl ?_); refine goesL_ (some 34) rfl rfl Tryd.func7 (by kernel_rfl) rfl #[.string t249] rfl (by (try simp only [List.map_toArray, List.map_cons, List.map_nil]); first | done | rfl | (simp only [List.length_drop, List.length_take]; rfl)) ?_; (with_reducible refine (glyph_Uni.calls k1 t249 t250 true _ ?side1 A6.out).mono ?_); (case side1 => exact GW.below (by repeat (first | (with_reducible first | exact HB.out | apply below_alloc | apply pw_below_drewN | apply below_drew1) | exact HB.out)) HG.out); rintro e w39 ⟨v252, rfl, ho0, hb⟩; refine ⟨_, rfl, ?_⟩; have n0_ := Aside0.mk (Kd.R_elder' (by (with_reducible repeat (first | apply Kd.R_alloc | apply Kd.R_drewN | apply Kd.R_drew)); exact HO248.out) (Kd.R_base ho0) hb); have n1_ := Aside0.mk (Kd.R_lower (Kd.R_new' ho0 (Kd.R_lt (by (with_reducible repeat (first | apply Kd.R_alloc | apply Kd.R_drewN | apply Kd.R_drew)); exact HO248.out))) (below_size (by repeat (first | (with_reducible first | exact HB.out | apply below_alloc | apply pw_below_drewN | apply below_drew1) | exact HB.out)))); have n2_ := Aside0.mk (below_step (by repeat (first | (with_reducible first | exact HB.out | apply below_alloc | apply pw_below_drewN | apply below_drew1) | exact HB.out)) hb); clear HO248; clear HB; have HO248 := n0_; have HO253 := n1_; have HB := n2_; clear n0_ n1_ n2_; (try clear hb); (try clear hb2); (try clear hk); (try clear hi); (try clear ho0)) | ((with_reducible refine gate_callee (f := 9) rfl ?_); refine goesL_ (some 39) rfl rfl Tryd.func9 (by kernel_rfl) rfl #[.int .i64 (wrap64 ((wrap64 (65 + (Int.tmod (Go.bits .and .i64 a0 65535) 26))) + (wrap64 (32 * x5_1))))] rfl (by (try simp only [List.map_toArray, List.map_cons, List.map_nil]); first | done | rfl | (simp only [List.length_drop, List.length_take]; rfl)) ?_; (with_reducible refine (glyph_Back.calls k1 (wrap64 ((wrap64 (65 + (Int.tmod (Go.bits .and .i64 a0 65535) 26))) + (wrap64 (32 * x5_1)))) t254 t255 _ ?side1 A7.out).mono ?_); (case side1 => exact GW.below (by repeat (first | (with_reducible first | exact HB.out | apply below_alloc | apply pw_below_drewN | apply below_drew1) | exact HB.out)) HG.out); rintro e w40 ⟨rfl, hb⟩; refine ⟨_, rfl, ?_⟩; have n0_ := Aside0.mk (Kd.R_below (by (with_reducible repeat (first | apply Kd.R_alloc | apply Kd.R_drewN | apply Kd.R_drew)); exact HO248.out) hb); have n1_ := Aside0.mk (Kd.R_below (by (with_reducible repeat (first | apply Kd.R_alloc | apply Kd.R_drewN | apply Kd.R_drew)); exact HO253.out) hb); have n2_ := Aside0.mk (below_step (by repeat (first | (with_reducible first | exact HB.out | apply below_alloc | apply pw_below_drewN | apply below_drew1) | exact HB.out)) hb); clear HO248; clear HO253; clear HB; have HO248 := n0_; have HO253 := n1_; have HB := n2_; clear n0_ n1_ n2_; (try clear hb); (try clear hb2); (try clear hk); (try clear hi); obtain ⟨Ao41, co41, eo41⟩ := Kd.R_slice HO253.out; subst eo41; have p256 : 0 ≤ (0 : Int) := (by omega); have q256 : 0 < (t250.length : Int) := of_decide_eq_true (by first | (with_reducible assumption) | assumption); obtain ⟨ad256, e256, hx256_0⟩ := Kd.at_int (Kd.R_reads' HO253.out).2.2 0 p256 q256; cases e256; have qi256 : (0 < t250.length) = True := eq_true (by omega); (try rw [show ((0 : Int)).toNat = 0 from rfl] at hx256_0); (try rw [Addr.add_zero'] at hx256_0); replace p256 := eq_true p256; replace q256 := eq_true q256))
        go_ret
        exact ⟨by first | rfl | (simp [errW_none, errW_some] <;> rfl) | (simp [*, errW_none, errW_some] <;> rfl), by repeat (first | (with_reducible first | exact HB.out | apply below_alloc | apply pw_below_drewN | apply below_drew1) | exact HB.out)⟩
      ·rw [if_neg c10] at H
       exact absurd H (by simp)
     ·rw [if_neg c9] at H
      have c9b0 : ((t250.length : Int) == 1) = false := beq_eq_false_iff_ne.mpr c9
      have c9b1 : ((t250.length : Int) != 1) = true := bne_iff_ne.mpr c9
      obtain rfl := Option.some.inj H
      go_wp2_with (first | ((with_reducible refine gate_dst (N := 30) rfl ?_); (try (refine gate_guard (by rfl) ?_; dsimp only)); refine Kd.R_lit (Kd.int .i64) _ 3 ?hg (N := 30) ?hd (xs := ([wrap64 ((wrap64 (65 + (Int.tmod (Go.bits .and .i64 a0 65535) 26))) + (wrap64 (32 * x5_1)))] : List Int)) (inner := [.int .i64 (wrap64 ((wrap64 (65 + (Int.tmod (Go.bits .and .i64 a0 65535) 26))) + (wrap64 (32 * x5_1))))]) (ok := fun _ => True) (okp := fun _ => True) ?hr ?hp (fun _ hk => hk) trivial (Below.refl _ _) (Nat.le_refl _) (by simp) ?_; (case hd => rfl); (case hg => rfl); (case hr => first | (go_simp; done) | (go_simp; rfl)); (case hp => exact (Reps.one (show Kd.M (Kd.int .i64) _ _ _ (wrap64 ((wrap64 (65 + (Int.tmod (Go.bits .and .i64 a0 65535) 26))) + (wrap64 (32 * x5_1)))) [.int .i64 (wrap64 ((wrap64 (65 + (Int.tmod (Go.bits .and .i64 a0 65535) 26))) + (wrap64 (32 * x5_1))))] from rfl) (Reps.none _ _))); intro v247 w42 ho43 hb hg_ hnew_; clear hg_ hnew_; (first | rw [← Ny246.out] at ho43 | (simp only [Int.reduceToNat] at ho43; rw [← Ny246.out] at ho43)); have n0_ := Aside0.mk (Kd.R_lower ho43 (below_size (by repeat (first | (with_reducible first | exact HB.out | apply below_alloc | apply pw_below_drewN | apply below_drew1) | exact HB.out)))); have n1_ := Aside0.mk (below_step (by repeat (first | (with_reducible first | exact HB.out | apply below_alloc | apply pw_below_drewN | apply below_drew1) | exact HB.out)) hb); clear HB; have HO248 := n0_; have HB := n1_; clear n0_ n1_; clear hb ho43; obtain ⟨Ao44, co44, eo44⟩ := Kd.R_slice HO248.out; subst eo44) | ((with_reducible refine gate_callee (f := 16) rfl ?_); refine goesL_ (some 31) rfl rfl Tryd.func16 (by kernel_rfl) rfl #[.slice Ao44 y246.length co44] rfl (by (try simp only [List.map_toArray, List.map_cons, List.map_nil]); first | done | rfl | (simp only [List.length_drop, List.length_take]; rfl)) ?_; (with_reducible refine (utf_Text.calls _ _ y246 t249 _ ?side1 ?side2 A5.out).mono ?_); (case side1 => repeat (first | exact (Kd.R_reads' HO248.out).2.2 | (with_reducible refine Kd.C_alloc ?_ _) | (with_reducible refine Kd.C_drewN ?_ _) | (with_reducible refine Kd.C_drew ?_))); (case side2 => exact (Kd.R_reads' HO248.out).2.1); rintro e w45 ⟨rfl, hb⟩; refine ⟨_, rfl, ?_⟩; have n0_ := Aside0.mk (Kd.R_below (by (with_reducible repeat (first | apply Kd.R_alloc | apply Kd.R_drewN | apply Kd.R_drew)); exact HO248.out) hb); have n1_ := Aside0.mk (below_step (by repeat (first | (with_reducible first | exact HB.out | apply below_alloc | apply pw_below_drewN | apply below_drew1) | exact HB.out)) hb); clear HO248; clear HB; have HO248 := n0_; have HB := n1_; clear n0_ n1_; (try clear hb); (try clear hb2); (try clear hk); (try clear hi)) | ((with_reducible refine gate_callee (f := 7) rfl ?_); refine goesL_ (some 34) rfl rfl Tryd.func7 (by kernel_rfl) rfl #[.string t249] rfl (by (try simp only [List.map_toArray, List.map_cons, List.map_nil]); first | done | rfl | (simp only [List.length_drop, List.length_take]; rfl)) ?_; (with_reducible refine (glyph_Uni.calls k1 t249 t250 true _ ?side1 A6.out).mono ?_); (case side1 => exact GW.below (by repeat (first | (with_reducible first | exact HB.out | apply below_alloc | apply pw_below_drewN | apply below_drew1) | exact HB.out)) HG.out); rintro e w46 ⟨v252, rfl, ho0, hb⟩; refine ⟨_, rfl, ?_⟩; have n0_ := Aside0.mk (Kd.R_elder' (by (with_reducible repeat (first | apply Kd.R_alloc | apply Kd.R_drewN | apply Kd.R_drew)); exact HO248.out) (Kd.R_base ho0) hb); have n1_ := Aside0.mk (Kd.R_lower (Kd.R_new' ho0 (Kd.R_lt (by (with_reducible repeat (first | apply Kd.R_alloc | apply Kd.R_drewN | apply Kd.R_drew)); exact HO248.out))) (below_size (by repeat (first | (with_reducible first | exact HB.out | apply below_alloc | apply pw_below_drewN | apply below_drew1) | exact HB.out)))); have n2_ := Aside0.mk (below_step (by repeat (first | (with_reducible first | exact HB.out | apply below_alloc | apply pw_below_drewN | apply below_drew1) | exact HB.out)) hb); clear HO248; clear HB; have HO248 := n0_; have HO253 := n1_; have HB := n2_; clear n0_ n1_ n2_; (try clear hb); (try clear hb2); (try clear hk); (try clear hi); (try clear ho0)) | ((with_reducible refine gate_callee (f := 9) rfl ?_); refine goesL_ (some 39) rfl rfl Tryd.func9 (by kernel_rfl) rfl #[.int .i64 (wrap64 ((wrap64 (65 + (Int.tmod (Go.bits .and .i64 a0 65535) 26))) + (wrap64 (32 * x5_1))))] rfl (by (try simp only [List.map_toArray, List.map_cons, List.map_nil]); first | done | rfl | (simp only [List.length_drop, List.length_take]; rfl)) ?_; (with_reducible refine (glyph_Back.calls k1 (wrap64 ((wrap64 (65 + (Int.tmod (Go.bits .and .i64 a0 65535) 26))) + (wrap64 (32 * x5_1)))) t254 t255 _ ?side1 A7.out).mono ?_); (case side1 => exact GW.below (by repeat (first | (with_reducible first | exact HB.out | apply below_alloc | apply pw_below_drewN | apply below_drew1) | exact HB.out)) HG.out); rintro e w47 ⟨rfl, hb⟩; refine ⟨_, rfl, ?_⟩; have n0_ := Aside0.mk (Kd.R_below (by (with_reducible repeat (first | apply Kd.R_alloc | apply Kd.R_drewN | apply Kd.R_drew)); exact HO248.out) hb); have n1_ := Aside0.mk (Kd.R_below (by (with_reducible repeat (first | apply Kd.R_alloc | apply Kd.R_drewN | apply Kd.R_drew)); exact HO253.out) hb); have n2_ := Aside0.mk (below_step (by repeat (first | (with_reducible first | exact HB.out | apply below_alloc | apply pw_below_drewN | apply below_drew1) | exact HB.out)) hb); clear HO248; clear HO253; clear HB; have HO248 := n0_; have HO253 := n1_; have HB := n2_; clear n0_ n1_ n2_; (try clear hb); (try clear hb2); (try clear hk); (try clear hi); obtain ⟨Ao48, co48, eo48⟩ := Kd.R_slice HO253.out; subst eo48))
      go_ret
      exact ⟨by first | rfl | (simp [errW_none, errW_some] <;> rfl) | (simp [*, errW_none, errW_some] <;> rfl), by repeat (first | (with_reducible first | exact HB.out | apply below_alloc | apply pw_below_drewN | apply below_drew1) | exact HB.out)⟩
    ·replace c8 := Bool.eq_false_iff.mpr c8
     subst c8
     have H1 : (some false) = some r := by rw [if_neg (show ¬ (false = true) by decide)] at H; exact H
     clear H
     have H := H1
     clear H1
     obtain rfl := Option.some.inj H
     go_wp2_with (first | ((with_reducible refine gate_dst (N := 30) rfl ?_); (try (refine gate_guard (by rfl) ?_; dsimp only)); refine Kd.R_lit (Kd.int .i64) _ 3 ?hg (N := 30) ?hd (xs := ([wrap64 ((wrap64 (65 + (Int.tmod (Go.bits .and .i64 a0 65535) 26))) + (wrap64 (32 * x5_1)))] : List Int)) (inner := [.int .i64 (wrap64 ((wrap64 (65 + (Int.tmod (Go.bits .and .i64 a0 65535) 26))) + (wrap64 (32 * x5_1))))]) (ok := fun _ => True) (okp := fun _ => True) ?hr ?hp (fun _ hk => hk) trivial (Below.refl _ _) (Nat.le_refl _) (by simp) ?_; (case hd => rfl); (case hg => rfl); (case hr => first | (go_simp; done) | (go_simp; rfl)); (case hp => exact (Reps.one (show Kd.M (Kd.int .i64) _ _ _ (wrap64 ((wrap64 (65 + (Int.tmod (Go.bits .and .i64 a0 65535) 26))) + (wrap64 (32 * x5_1)))) [.int .i64 (wrap64 ((wrap64 (65 + (Int.tmod (Go.bits .and .i64 a0 65535) 26))) + (wrap64 (32 * x5_1))))] from rfl) (Reps.none _ _))); intro v247 w49 ho50 hb hg_ hnew_; clear hg_ hnew_; (first | rw [← Ny246.out] at ho50 | (simp only [Int.reduceToNat] at ho50; rw [← Ny246.out] at ho50)); have n0_ := Aside0.mk (Kd.R_lower ho50 (below_size (by repeat (first | (with_reducible first | exact HB.out | apply below_alloc | apply pw_below_drewN | apply below_drew1) | exact HB.out)))); have n1_ := Aside0.mk (below_step (by repeat (first | (with_reducible first | exact HB.out | apply below_alloc | apply pw_below_drewN | apply below_drew1) | exact HB.out)) hb); clear HB; have HO248 := n0_; have HB := n1_; clear n0_ n1_; clear hb ho50; obtain ⟨Ao51, co51, eo51⟩ := Kd.R_slice HO248.out; subst eo51) | ((with_reducible refine gate_callee (f := 16) rfl ?_); refine goesL_ (some 31) rfl rfl Tryd.func16 (by kernel_rfl) rfl #[.slice Ao51 y246.length co51] rfl (by (try simp only [List.map_toArray, List.map_cons, List.map_nil]); first | done | rfl | (simp only [List.length_drop, List.length_take]; rfl)) ?_; (with_reducible refine (utf_Text.calls _ _ y246 t249 _ ?side1 ?side2 A5.out).mono ?_); (case side1 => repeat (first | exact (Kd.R_reads' HO248.out).2.2 | (with_reducible refine Kd.C_alloc ?_ _) | (with_reducible refine Kd.C_drewN ?_ _) | (with_reducible refine Kd.C_drew ?_))); (case side2 => exact (Kd.R_reads' HO248.out).2.1); rintro e w52 ⟨rfl, hb⟩; refine ⟨_, rfl, ?_⟩; have n0_ := Aside0.mk (Kd.R_below (by (with_reducible repeat (first | apply Kd.R_alloc | apply Kd.R_drewN | apply Kd.R_drew)); exact HO248.out) hb); have n1_ := Aside0.mk (below_step (by repeat (first | (with_reducible first | exact HB.out | apply below_alloc | apply pw_below_drewN | apply below_drew1) | exact HB.out)) hb); clear HO248; clear HB; have HO248 := n0_; have HB := n1_; clear n0_ n1_; (try clear hb); (try clear hb2); (try clear hk); (try clear hi)) | ((with_reducible refine gate_callee (f := 7) rfl ?_); refine goesL_ (some 34) rfl rfl Tryd.func7 (by kernel_rfl) rfl #[.string t249] rfl (by (try simp only [List.map_toArray, List.map_cons, List.map_nil]); first | done | rfl | (simp only [List.length_drop, List.length_take]; rfl)) ?_; (with_reducible refine (glyph_Uni.calls k1 t249 t250 false _ ?side1 A6.out).mono ?_); (case side1 => exact GW.below (by repeat (first | (with_reducible first | exact HB.out | apply below_alloc | apply pw_below_drewN | apply below_drew1) | exact HB.out)) HG.out); rintro e w53 ⟨v252, rfl, ho0, hb⟩; refine ⟨_, rfl, ?_⟩; have n0_ := Aside0.mk (Kd.R_elder' (by (with_reducible repeat (first | apply Kd.R_alloc | apply Kd.R_drewN | apply Kd.R_drew)); exact HO248.out) (Kd.R_base ho0) hb); have n1_ := Aside0.mk (Kd.R_lower (Kd.R_new' ho0 (Kd.R_lt (by (with_reducible repeat (first | apply Kd.R_alloc | apply Kd.R_drewN | apply Kd.R_drew)); exact HO248.out))) (below_size (by repeat (first | (with_reducible first | exact HB.out | apply below_alloc | apply pw_below_drewN | apply below_drew1) | exact HB.out)))); have n2_ := Aside0.mk (below_step (by repeat (first | (with_reducible first | exact HB.out | apply below_alloc | apply pw_below_drewN | apply below_drew1) | exact HB.out)) hb); clear HO248; clear HB; have HO248 := n0_; have HO253 := n1_; have HB := n2_; clear n0_ n1_ n2_; (try clear hb); (try clear hb2); (try clear hk); (try clear hi); (try clear ho0)) | ((with_reducible refine gate_callee (f := 9) rfl ?_); refine goesL_ (some 39) rfl rfl Tryd.func9 (by kernel_rfl) rfl #[.int .i64 (wrap64 ((wrap64 (65 + (Int.tmod (Go.bits .and .i64 a0 65535) 26))) + (wrap64 (32 * x5_1))))] rfl (by (try simp only [List.map_toArray, List.map_cons, List.map_nil]); first | done | rfl | (simp only [List.length_drop, List.length_take]; rfl)) ?_; (with_reducible refine (glyph_Back.calls k1 (wrap64 ((wrap64 (65 + (Int.tmod (Go.bits .and .i64 a0 65535) 26))) + (wrap64 (32 * x5_1)))) t254 t255 _ ?side1 A7.out).mono ?_); (case side1 => exact GW.below (by repeat (first | (with_reducible first | exact HB.out | apply below_alloc | apply pw_below_drewN | apply below_drew1) | exact HB.out)) HG.out); rintro e w54 ⟨rfl, hb⟩; refine ⟨_, rfl, ?_⟩; have n0_ := Aside0.mk (Kd.R_below (by (with_reducible repeat (first | apply Kd.R_alloc | apply Kd.R_drewN | apply Kd.R_drew)); exact HO248.out) hb); have n1_ := Aside0.mk (Kd.R_below (by (with_reducible repeat (first | apply Kd.R_alloc | apply Kd.R_drewN | apply Kd.R_drew)); exact HO253.out) hb); have n2_ := Aside0.mk (below_step (by repeat (first | (with_reducible first | exact HB.out | apply below_alloc | apply pw_below_drewN | apply below_drew1) | exact HB.out)) hb); clear HO248; clear HO253; clear HB; have HO248 := n0_; have HO253 := n1_; have HB := n2_; clear n0_ n1_ n2_; (try clear hb); (try clear hb2); (try clear hk); (try clear hi)))
     go_ret
     exact ⟨by first | rfl | (simp [errW_none, errW_some] <;> rfl) | (simp [*, errW_none, errW_some] <;> rfl), by repeat (first | (with_reducible first | exact HB.out | apply below_alloc | apply pw_below_drewN | apply below_drew1) | exact HB.out)⟩
   ·rw [if_neg c4] at H
    have c4b0 : decide (x5_1 < 2) = false := decide_eq_false c4
    clear c4
    replace H := Option.bind_eq_some_iff.mp H
    obtain ⟨t257, A550, H⟩ := H
    replace H : (if (t257.length : Int) < 95 then (some false) else (if 0 ≤ (Int.tmod (Go.bits .and .i64 a0 65535) 95) then (if (Int.tmod (Go.bits .and .i64 a0 65535) 95) < (t257.length : Int) then ((glyph_Uni.f k1 (rdOf ByteArray.empty t257 (Int.tmod (Go.bits .and .i64 a0 65535) 95))).bind fun bt261 => (if t245 = true then (if bt261.2 = true then (if (bt261.1.length : Int) = 1 then (if 0 < (bt261.1.length : Int) then (some ((rd bt261.1 0) == (wrap64 (32 + (Int.tmod (Go.bits .and .i64 a0 65535) 95))))) else (none)) else (some false)) else (some false)) else (some false))) else (none)) else (none))) = some r := H
    have A55 := Aside0.mk A550
    clear A550
    by_cases c56 : (t257.length : Int) < 95
    ·rw [if_pos c56] at H
     have c56b0 : decide ((t257.length : Int) < 95) = true := decide_eq_true c56
     have c56b1 : decide (t257.length < 95) = true := decide_eq_true (by omega)
     clear c56
     obtain rfl := Option.some.inj H
     go_wp2_with (first | ((with_reducible refine gate_callee (f := 11) rfl ?_); refine goesL_ (some 65) rfl rfl Tryd.func11 (by kernel_rfl) rfl #[] rfl (by (try simp only [List.map_toArray, List.map_cons, List.map_nil]); first | done | rfl | (simp only [List.length_drop, List.length_take]; rfl)) ?_; (with_reducible refine (glyph_Names.calls k1  t257 _ ?side1 A55.out).mono ?_); (case side1 => exact GW.below (by repeat (first | (with_reducible first | exact HB.out | apply below_alloc | apply pw_below_drewN | apply below_drew1) | exact HB.out)) HG.out); rintro e w57 ⟨v258, rfl, ho0, hb⟩; refine ⟨_, rfl, ?_⟩; have n0_ := Aside0.mk (Kd.R_lower ho0 (below_size (by repeat (first | (with_reducible first | exact HB.out | apply below_alloc | apply pw_below_drewN | apply below_drew1) | exact HB.out)))); have n1_ := Aside0.mk (below_step (by repeat (first | (with_reducible first | exact HB.out | apply below_alloc | apply pw_below_drewN | apply below_drew1) | exact HB.out)) hb); clear HB; have HO259 := n0_; have HB := n1_; clear n0_ n1_; (try clear hb); (try clear hb2); (try clear hk); (try clear hi); (try clear ho0); obtain ⟨Ao58, co58, eo58⟩ := Kd.R_slice HO259.out; subst eo58))
     go_ret
     exact ⟨by first | rfl | (simp [errW_none, errW_some] <;> rfl) | (simp [*, errW_none, errW_some] <;> rfl), by repeat (first | (with_reducible first | exact HB.out | apply below_alloc | apply pw_below_drewN | apply below_drew1) | exact HB.out)⟩
    ·rw [if_neg c56] at H
     have c56b0 : decide ((t257.length : Int) < 95) = false := decide_eq_false c56
     have c56b1 : decide (t257.length < 95) = false := decide_eq_false (by omega)
     clear c56
     obtain ⟨ji59, hji59⟩ : ∃ j_ : Int, (Int.tmod (Go.bits .and .i64 a0 65535) 95) = j_ := ⟨_, rfl⟩
     replace H : (if 0 ≤ (ji59) then (if (ji59) < (t257.length : Int) then ((glyph_Uni.f k1 (rdOf ByteArray.empty t257 (ji59))).bind fun bt261 => (if t245 = true then (if bt261.2 = true then (if (bt261.1.length : Int) = 1 then (if 0 < (bt261.1.length : Int) then (some ((rd bt261.1 0) == (wrap64 (32 + (ji59))))) else (none)) else (some false)) else (some false)) else (some false))) else (none)) else (none)) = some r := by first | (rw [hji59] at H; exact H) | (simp only [hji59] at H ⊢; exact H)
     (try rw [hji59] at A55)
     by_cases c60 : 0 ≤ (ji59)
     ·rw [if_pos c60] at H
      have c60b0 : decide (0 ≤ (ji59)) = true := decide_eq_true c60
      clear c60
      by_cases c61 : (ji59) < (t257.length : Int)
      ·rw [if_pos c61] at H
       have c61b0 : decide ((ji59) < (t257.length : Int)) = true := decide_eq_true c61
       clear c61
       replace H := Option.bind_eq_some_iff.mp H
       obtain ⟨⟨t261, t262⟩, A620, H⟩ := H
       replace H : (if t245 = true then (if t262 = true then (if (t261.length : Int) = 1 then (if 0 < (t261.length : Int) then (some ((rd t261 0) == (wrap64 (32 + (ji59))))) else (none)) else (some false)) else (some false)) else (some false)) = some r := H
       have A62 := Aside0.mk A620
       clear A620
       by_cases c63 : t245 = true
       ·subst c63
        have H1 : (if t262 = true then (if (t261.length : Int) = 1 then (if 0 < (t261.length : Int) then (some ((rd t261 0) == (wrap64 (32 + (ji59))))) else (none)) else (some false)) else (some false)) = some r := by rw [if_pos rfl] at H; exact H
        clear H
        have H := H1
        clear H1
        by_cases c64 : t262 = true
        ·subst c64
         have H1 : (if (t261.length : Int) = 1 then (if 0 < (t261.length : Int) then (some ((rd t261 0) == (wrap64 (32 + (ji59))))) else (none)) else (some false)) = some r := by rw [if_pos rfl] at H; exact H
         clear H
         have H := H1
         clear H1
         by_cases c65 : (t261.length : Int) = 1
         ·rw [if_pos c65] at H
          have c65b0 : ((t261.length : Int) == 1) = true := beq_iff_eq.mpr c65
          have c65b1 : ((t261.length : Int) != 1) = false := bne_eq_false_iff_eq.mpr c65
          clear c65
          by_cases c66 : 0 < (t261.length : Int)
          ·rw [if_pos c66] at H
           have c66b0 : decide (0 < (t261.length : Int)) = true := decide_eq_true c66
           have c66b1 : decide (0 < t261.length) = true := decide_eq_true (by omega)
           clear c66
           obtain rfl := Option.some.inj H
           go_wp2_with (first | ((with_reducible refine gate_callee (f := 11) rfl ?_); refine goesL_ (some 65) rfl rfl Tryd.func11 (by kernel_rfl) rfl #[] rfl (by (try simp only [List.map_toArray, List.map_cons, List.map_nil]); first | done | rfl | (simp only [List.length_drop, List.length_take]; rfl)) ?_; (with_reducible refine (glyph_Names.calls k1  t257 _ ?side1 A55.out).mono ?_); (case side1 => exact GW.below (by repeat (first | (with_reducible first | exact HB.out | apply below_alloc | apply pw_below_drewN | apply below_drew1) | exact HB.out)) HG.out); rintro e w67 ⟨v258, rfl, ho0, hb⟩; refine ⟨_, rfl, ?_⟩; have n0_ := Aside0.mk (Kd.R_lower ho0 (below_size (by repeat (first | (with_reducible first | exact HB.out | apply below_alloc | apply pw_below_drewN | apply below_drew1) | exact HB.out)))); have n1_ := Aside0.mk (below_step (by repeat (first | (with_reducible first | exact HB.out | apply below_alloc | apply pw_below_drewN | apply below_drew1) | exact HB.out)) hb); clear HB; have HO259 := n0_; have HB := n1_; clear n0_ n1_; (try clear hb); (try clear hb2); (try clear hk); (try clear hi); (try clear ho0); obtain ⟨Ao68, co68, eo68⟩ := Kd.R_slice HO259.out; subst eo68; have p260 : 0 ≤ ((ji59) : Int) := of_decide_eq_true (by first | (with_reducible assumption) | assumption); have q260 : (ji59) < (t257.length : Int) := of_decide_eq_true (by first | (with_reducible assumption) | assumption); obtain ⟨ad260, e260, hx260_0⟩ := Kd.at_string (Kd.R_reads' HO259.out).2.2 (ji59) p260 q260; cases e260; replace p260 := eq_true p260; replace q260 := eq_true q260) | ((with_reducible refine gate_callee (f := 7) rfl ?_); refine goesL_ (some 77) rfl rfl Tryd.func7 (by kernel_rfl) rfl #[.string (rdOf ByteArray.empty t257 (ji59))] rfl (by (try simp only [List.map_toArray, List.map_cons, List.map_nil]); first | done | (simp only [hji59]; rfl) | rfl | (simp only [List.length_drop, List.length_take]; rfl)) ?_; (with_reducible refine (glyph_Uni.calls k1 (rdOf ByteArray.empty t257 (ji59)) t261 true _ ?side1 A62.out).mono ?_); (case side1 => exact GW.below (by repeat (first | (with_reducible first | exact HB.out | apply below_alloc | apply pw_below_drewN | apply below_drew1) | exact HB.out)) HG.out); rintro e w69 ⟨v263, rfl, ho0, hb⟩; refine ⟨_, rfl, ?_⟩; have n0_ := Aside0.mk (Kd.R_below (by (with_reducible repeat (first | apply Kd.R_alloc | apply Kd.R_drewN | apply Kd.R_drew)); exact HO259.out) hb); have n1_ := Aside0.mk (Kd.R_lower ho0 (below_size (by repeat (first | (with_reducible first | exact HB.out | apply below_alloc | apply pw_below_drewN | apply below_drew1) | exact HB.out)))); have n2_ := Aside0.mk (below_step (by repeat (first | (with_reducible first | exact HB.out | apply below_alloc | apply pw_below_drewN | apply below_drew1) | exact HB.out)) hb); clear HO259; clear HB; have HO259 := n0_; have HO264 := n1_; have HB := n2_; clear n0_ n1_ n2_; (try clear hb); (try clear hb2); (try clear hk); (try clear hi); (try clear ho0); obtain ⟨Ao70, co70, eo70⟩ := Kd.R_slice HO264.out; subst eo70; have p265 : 0 ≤ (0 : Int) := (by omega); have q265 : 0 < (t261.length : Int) := of_decide_eq_true (by first | (with_reducible assumption) | assumption); obtain ⟨ad265, e265, hx265_0⟩ := Kd.at_int (Kd.R_reads' HO264.out).2.2 0 p265 q265; cases e265; have qi265 : (0 < t261.length) = True := eq_true (by omega); (try rw [show ((0 : Int)).toNat = 0 from rfl] at hx265_0); (try rw [Addr.add_zero'] at hx265_0); replace p265 := eq_true p265; replace q265 := eq_true q265))
           go_ret
           exact ⟨by first | rfl | (simp [errW_none, errW_some] <;> rfl) | (simp only [← hji59]; first | rfl | (simp [errW_none, errW_some] <;> rfl)) | (simp [*, errW_none, errW_some] <;> rfl), by repeat (first | (with_reducible first | exact HB.out | apply below_alloc | apply pw_below_drewN | apply below_drew1) | exact HB.out)⟩
          ·rw [if_neg c66] at H
           exact absurd H (by simp)
         ·rw [if_neg c65] at H
          have c65b0 : ((t261.length : Int) == 1) = false := beq_eq_false_iff_ne.mpr c65
          have c65b1 : ((t261.length : Int) != 1) = true := bne_iff_ne.mpr c65
          obtain rfl := Option.some.inj H
          go_wp2_with (first | ((with_reducible refine gate_callee (f := 11) rfl ?_); refine goesL_ (some 65) rfl rfl Tryd.func11 (by kernel_rfl) rfl #[] rfl (by (try simp only [List.map_toArray, List.map_cons, List.map_nil]); first | done | rfl | (simp only [List.length_drop, List.length_take]; rfl)) ?_; (with_reducible refine (glyph_Names.calls k1  t257 _ ?side1 A55.out).mono ?_); (case side1 => exact GW.below (by repeat (first | (with_reducible first | exact HB.out | apply below_alloc | apply pw_below_drewN | apply below_drew1) | exact HB.out)) HG.out); rintro e w71 ⟨v258, rfl, ho0, hb⟩; refine ⟨_, rfl, ?_⟩; have n0_ := Aside0.mk (Kd.R_lower ho0 (below_size (by repeat (first | (with_reducible first | exact HB.out | apply below_alloc | apply pw_below_drewN | apply below_drew1) | exact HB.out)))); have n1_ := Aside0.mk (below_step (by repeat (first | (with_reducible first | exact HB.out | apply below_alloc | apply pw_below_drewN | apply below_drew1) | exact HB.out)) hb); clear HB; have HO259 := n0_; have HB := n1_; clear n0_ n1_; (try clear hb); (try clear hb2); (try clear hk); (try clear hi); (try clear ho0); obtain ⟨Ao72, co72, eo72⟩ := Kd.R_slice HO259.out; subst eo72; have p260 : 0 ≤ ((ji59) : Int) := of_decide_eq_true (by first | (with_reducible assumption) | assumption); have q260 : (ji59) < (t257.length : Int) := of_decide_eq_true (by first | (with_reducible assumption) | assumption); obtain ⟨ad260, e260, hx260_0⟩ := Kd.at_string (Kd.R_reads' HO259.out).2.2 (ji59) p260 q260; cases e260; replace p260 := eq_true p260; replace q260 := eq_true q260) | ((with_reducible refine gate_callee (f := 7) rfl ?_); refine goesL_ (some 77) rfl rfl Tryd.func7 (by kernel_rfl) rfl #[.string (rdOf ByteArray.empty t257 (ji59))] rfl (by (try simp only [List.map_toArray, List.map_cons, List.map_nil]); first | done | (simp only [hji59]; rfl) | rfl | (simp only [List.length_drop, List.length_take]; rfl)) ?_; (with_reducible refine (glyph_Uni.calls k1 (rdOf ByteArray.empty t257 (ji59)) t261 true _ ?side1 A62.out).mono ?_); (case side1 => exact GW.below (by repeat (first | (with_reducible first | exact HB.out | apply below_alloc | apply pw_below_drewN | apply below_drew1) | exact HB.out)) HG.out); rintro e w73 ⟨v263, rfl, ho0, hb⟩; refine ⟨_, rfl, ?_⟩; have n0_ := Aside0.mk (Kd.R_below (by (with_reducible repeat (first | apply Kd.R_alloc | apply Kd.R_drewN | apply Kd.R_drew)); exact HO259.out) hb); have n1_ := Aside0.mk (Kd.R_lower ho0 (below_size (by repeat (first | (with_reducible first | exact HB.out | apply below_alloc | apply pw_below_drewN | apply below_drew1) | exact HB.out)))); have n2_ := Aside0.mk (below_step (by repeat (first | (with_reducible first | exact HB.out | apply below_alloc | apply pw_below_drewN | apply below_drew1) | exact HB.out)) hb); clear HO259; clear HB; have HO259 := n0_; have HO264 := n1_; have HB := n2_; clear n0_ n1_ n2_; (try clear hb); (try clear hb2); (try clear hk); (try clear hi); (try clear ho0); obtain ⟨Ao74, co74, eo74⟩ := Kd.R_slice HO264.out; subst eo74))
          go_ret
          exact ⟨by first | rfl | (simp [errW_none, errW_some] <;> rfl) | (simp only [← hji59]; first | rfl | (simp [errW_none, errW_some] <;> rfl)) | (simp [*, errW_none, errW_some] <;> rfl), by repeat (first | (with_reducible first | exact HB.out | apply below_alloc | apply pw_below_drewN | apply below_drew1) | exact HB.out)⟩
        ·replace c64 := Bool.eq_false_iff.mpr c64
         subst c64
         have H1 : (some false) = some r := by rw [if_neg (show ¬ (false = true) by decide)] at H; exact H
         clear H
         have H := H1
         clear H1
         obtain rfl := Option.some.inj H
         go_wp2_with (first | ((with_reducible refine gate_callee (f := 11) rfl ?_); refine goesL_ (some 65) rfl rfl Tryd.func11 (by kernel_rfl) rfl #[] rfl (by (try simp only [List.map_toArray, List.map_cons, List.map_nil]); first | done | rfl | (simp only [List.length_drop, List.length_take]; rfl)) ?_; (with_reducible refine (glyph_Names.calls k1  t257 _ ?side1 A55.out).mono ?_); (case side1 => exact GW.below (by repeat (first | (with_reducible first | exact HB.out | apply below_alloc | apply pw_below_drewN | apply below_drew1) | exact HB.out)) HG.out); rintro e w75 ⟨v258, rfl, ho0, hb⟩; refine ⟨_, rfl, ?_⟩; have n0_ := Aside0.mk (Kd.R_lower ho0 (below_size (by repeat (first | (with_reducible first | exact HB.out | apply below_alloc | apply pw_below_drewN | apply below_drew1) | exact HB.out)))); have n1_ := Aside0.mk (below_step (by repeat (first | (with_reducible first | exact HB.out | apply below_alloc | apply pw_below_drewN | apply below_drew1) | exact HB.out)) hb); clear HB; have HO259 := n0_; have HB := n1_; clear n0_ n1_; (try clear hb); (try clear hb2); (try clear hk); (try clear hi); (try clear ho0); obtain ⟨Ao76, co76, eo76⟩ := Kd.R_slice HO259.out; subst eo76; have p260 : 0 ≤ ((ji59) : Int) := of_decide_eq_true (by first | (with_reducible assumption) | assumption); have q260 : (ji59) < (t257.length : Int) := of_decide_eq_true (by first | (with_reducible assumption) | assumption); obtain ⟨ad260, e260, hx260_0⟩ := Kd.at_string (Kd.R_reads' HO259.out).2.2 (ji59) p260 q260; cases e260; replace p260 := eq_true p260; replace q260 := eq_true q260) | ((with_reducible refine gate_callee (f := 7) rfl ?_); refine goesL_ (some 77) rfl rfl Tryd.func7 (by kernel_rfl) rfl #[.string (rdOf ByteArray.empty t257 (ji59))] rfl (by (try simp only [List.map_toArray, List.map_cons, List.map_nil]); first | done | (simp only [hji59]; rfl) | rfl | (simp only [List.length_drop, List.length_take]; rfl)) ?_; (with_reducible refine (glyph_Uni.calls k1 (rdOf ByteArray.empty t257 (ji59)) t261 false _ ?side1 A62.out).mono ?_); (case side1 => exact GW.below (by repeat (first | (with_reducible first | exact HB.out | apply below_alloc | apply pw_below_drewN | apply below_drew1) | exact HB.out)) HG.out); rintro e w77 ⟨v263, rfl, ho0, hb⟩; refine ⟨_, rfl, ?_⟩; have n0_ := Aside0.mk (Kd.R_below (by (with_reducible repeat (first | apply Kd.R_alloc | apply Kd.R_drewN | apply Kd.R_drew)); exact HO259.out) hb); have n1_ := Aside0.mk (Kd.R_lower ho0 (below_size (by repeat (first | (with_reducible first | exact HB.out | apply below_alloc | apply pw_below_drewN | apply below_drew1) | exact HB.out)))); have n2_ := Aside0.mk (below_step (by repeat (first | (with_reducible first | exact HB.out | apply below_alloc | apply pw_below_drewN | apply below_drew1) | exact HB.out)) hb); clear HO259; clear HB; have HO259 := n0_; have HO264 := n1_; have HB := n2_; clear n0_ n1_ n2_; (try clear hb); (try clear hb2); (try clear hk); (try clear hi); (try clear ho0)))
         go_ret
         exact ⟨by first | rfl | (simp [errW_none, errW_some] <;> rfl) | (simp only [← hji59]; first | rfl | (simp [errW_none, errW_some] <;> rfl)) | (simp [*, errW_none, errW_some] <;> rfl), by repeat (first | (with_reducible first | exact HB.out | apply below_alloc | apply pw_below_drewN | apply below_drew1) | exact HB.out)⟩
       ·replace c63 := Bool.eq_false_iff.mpr c63
        subst c63
        have H1 : (some false) = some r := by rw [if_neg (show ¬ (false = true) by decide)] at H; exact H
        clear H
        have H := H1
        clear H1
        obtain rfl := Option.some.inj H
        go_wp2_with (first | ((with_reducible refine gate_callee (f := 11) rfl ?_); refine goesL_ (some 65) rfl rfl Tryd.func11 (by kernel_rfl) rfl #[] rfl (by (try simp only [List.map_toArray, List.map_cons, List.map_nil]); first | done | rfl | (simp only [List.length_drop, List.length_take]; rfl)) ?_; (with_reducible refine (glyph_Names.calls k1  t257 _ ?side1 A55.out).mono ?_); (case side1 => exact GW.below (by repeat (first | (with_reducible first | exact HB.out | apply below_alloc | apply pw_below_drewN | apply below_drew1) | exact HB.out)) HG.out); rintro e w78 ⟨v258, rfl, ho0, hb⟩; refine ⟨_, rfl, ?_⟩; have n0_ := Aside0.mk (Kd.R_lower ho0 (below_size (by repeat (first | (with_reducible first | exact HB.out | apply below_alloc | apply pw_below_drewN | apply below_drew1) | exact HB.out)))); have n1_ := Aside0.mk (below_step (by repeat (first | (with_reducible first | exact HB.out | apply below_alloc | apply pw_below_drewN | apply below_drew1) | exact HB.out)) hb); clear HB; have HO259 := n0_; have HB := n1_; clear n0_ n1_; (try clear hb); (try clear hb2); (try clear hk); (try clear hi); (try clear ho0); obtain ⟨Ao79, co79, eo79⟩ := Kd.R_slice HO259.out; subst eo79; have p260 : 0 ≤ ((ji59) : Int) := of_decide_eq_true (by first | (with_reducible assumption) | assumption); have q260 : (ji59) < (t257.length : Int) := of_decide_eq_true (by first | (with_reducible assumption) | assumption); obtain ⟨ad260, e260, hx260_0⟩ := Kd.at_string (Kd.R_reads' HO259.out).2.2 (ji59) p260 q260; cases e260; replace p260 := eq_true p260; replace q260 := eq_true q260) | ((with_reducible refine gate_callee (f := 7) rfl ?_); refine goesL_ (some 77) rfl rfl Tryd.func7 (by kernel_rfl) rfl #[.string (rdOf ByteArray.empty t257 (ji59))] rfl (by (try simp only [List.map_toArray, List.map_cons, List.map_nil]); first | done | (simp only [hji59]; rfl) | rfl | (simp only [List.length_drop, List.length_take]; rfl)) ?_; (with_reducible refine (glyph_Uni.calls k1 (rdOf ByteArray.empty t257 (ji59)) t261 t262 _ ?side1 A62.out).mono ?_); (case side1 => exact GW.below (by repeat (first | (with_reducible first | exact HB.out | apply below_alloc | apply pw_below_drewN | apply below_drew1) | exact HB.out)) HG.out); rintro e w80 ⟨v263, rfl, ho0, hb⟩; refine ⟨_, rfl, ?_⟩; have n0_ := Aside0.mk (Kd.R_below (by (with_reducible repeat (first | apply Kd.R_alloc | apply Kd.R_drewN | apply Kd.R_drew)); exact HO259.out) hb); have n1_ := Aside0.mk (Kd.R_lower ho0 (below_size (by repeat (first | (with_reducible first | exact HB.out | apply below_alloc | apply pw_below_drewN | apply below_drew1) | exact HB.out)))); have n2_ := Aside0.mk (below_step (by repeat (first | (with_reducible first | exact HB.out | apply below_alloc | apply pw_below_drewN | apply below_drew1) | exact HB.out)) hb); clear HO259; clear HB; have HO259 := n0_; have HO264 := n1_; have HB := n2_; clear n0_ n1_ n2_; (try clear hb); (try clear hb2); (try clear hk); (try clear hi); (try clear ho0)))
        go_ret
        exact ⟨by first | rfl | (simp [errW_none, errW_some] <;> rfl) | (simp only [← hji59]; first | rfl | (simp [errW_none, errW_some] <;> rfl)) | (simp [*, errW_none, errW_some] <;> rfl), by repeat (first | (with_reducible first | exact HB.out | apply below_alloc | apply pw_below_drewN | apply below_drew1) | exact HB.out)⟩
      ·rw [if_neg c61] at H
       exact absurd H (by simp)
     ·rw [if_neg c60] at H
      exact absurd H (by simp)
/-- THE ONE PURE STATEMENT of hornbooklaw14_GlyphAscii: yours. -/
def hornbooklaw14_GlyphAscii.Pure : Prop := ∀ (a0 : Int), (Lit.int .i64 a0).wf = true → ∃ k, hornbooklaw14_GlyphAscii.f k a0 = some true
theorem hornbooklaw14_GlyphAscii.walk (P : hornbooklaw14_GlyphAscii.Pure) (a0 : Int) (w : World) (w0 : (Lit.int .i64 a0).wf = true)(hG : GW w) :
  Calls Tryd.prog 5 #[.int .i64 a0] w fun e w' => e = .returned (.bool true) ∧ Below w.heap.size w w' := by
 obtain ⟨k, h⟩ := P a0 w0
 refine (hornbooklaw14_GlyphAscii.calls k a0 true w hG h).mono ?_
 rintro e w' ⟨rfl, hd⟩
 exact ⟨rfl, hd⟩
end Go.Proofs.YtdbadfcekomomaaDoor.M
end
section
namespace Go.Proofs.YtdbadfcekomomaaDoor.M
open Go Go.RowKit
variable {H : Type} {enc : TypeId × Value → H}
theorem returns_both {a : Assume} {C : Checked} {os : Os} {f : FuncId} {fn : Func} {s : ChangeSpec} {conds : List PathCond} {apart fresh handsOn again : Bool} {X : World → Array Value → Prop}
  (hX : ∀ (w w' : World) (args : Array Value), w.heap = w'.heap → X w args → X w' args)
  (own : ownKnob C.prog.godebug = none) (started : os.Started) (noInit : C.prog.inits.idxOf? f = none) (hfn : C.prog.funcs[f]? = some fn)
  (witness : ∃ (w : World) (tape : Tape) (i : Input), w.os = os ∧ (w.forCall tape i).Shaped C.prog ∧ i.vars = [] ∧ Input.okWide C.prog (w.forCall tape i) .any w.heap.size f i ∧
   ((s.pre enc C.prog fn conds apart (w.forCall tape i).memory i.args ∧ X (w.forCall tape i).memory i.args) ∧ sizedMet enc C.prog fn (OpenSpec.ofChange s) apart (w.forCall tape i).memory i.args) ∧ a.holds C.prog (lone (Frame.enter C.prog f i.args .normal) [] (w.forCall tape i)))
  (contract : ∀ (W : World) (base : Nat) (args : Array Value) (ds gs : List (DataW H)) (before : List MemPlace),
   (∀ (j : Nat) t v, fn.params[j]? = some t → args[j]? = some v → Value.okWide C.prog W .any base t v) →
   DataW.Whole enc C.prog fn.params.toList s.vars apart W args.toList ds gs before →
   conds.all (PathCond.test C.prog ⟨fn.params.toList, ds, s.plain.varTypes C.prog, gs⟩) = true →
   (DataW.weightsEach C.prog (fn.params.toList ++ s.plain.varTypes C.prog) (ds ++ gs)).all (· ≤ reachBytes) = true → X W args → W.ShapedOpen C.prog →
   Calls C.prog f args W fun e W' => ∃ v, e = .returned v ∧ s.post enc C.prog fn apart fresh handsOn again W args v W') :
  ReturnsInHanded a C os f .any (fun w args => (s.pre enc C.prog fn conds apart w args ∧ X w args) ∧ sizedMet enc C.prog fn (OpenSpec.ofChange s) apart w args) (s.post enc C.prog fn apart fresh handsOn again) := by
 refine returnsInHanded_of_calls own started noInit witness ?_
 intro w tape i _ hsh _ hok hpre hholds
 obtain ⟨_, _, _, fn', hfn', _, _, _, _, hval⟩ := hok
 have e : fn' = fn := Option.some.inj (hfn'.symm.trans hfn)
 subst e
 obtain ⟨⟨⟨ds, gs, before, hw, hc⟩, hx⟩, hz⟩ := hpre
 have hw' := DataW.Whole.of_heap (w' := w.forCall tape i) (by rfl) hw
 refine (contract (w.forCall tape i) w.heap.size i.args ds gs before hval hw' hc (hz.weights hw) (hX _ _ _ (by rfl) hx) hsh).mono fun e W' ⟨v, he, hp⟩ => ?_
 subst he
 exact ChangeSpec.post_blind hp
theorem gw_star : "*" ++ "errors.errorString" = "*errors.errorString" := by decide
theorem gw_row (u : TypeId) (h : Tryd.prog.typeName? 3 u = some "*errors.errorString") : u = 129 :=
 typeName_ptr_named (nm := "errors.errorString") (by rw [gw_star]; kernel_rfl) (by kernel_rfl) (by decide) u (by rw [gw_star]; exact h)
/-- Out of a row's 'laid', from the two sentinels on, and the world's shape. -/
theorem GW.of_mets {r1 r2 : List (String × DataW Unit)} {t1 t2 : List UInt8} {W : World}
  (h1 : laidMet Tryd.prog (("strconv.ErrRange", .iface "*errors.errorString" (.ptr (.agg [.lit (.string t1)]))) :: r1) W)
  (h2 : laidMet Tryd.prog (("strconv.ErrSyntax", .iface "*errors.errorString" (.ptr (.agg [.lit (.string t2)]))) :: r2) W)
  {r3 : List (String × DataW Unit)} (h3 : laidMet Tryd.prog (("strings.asciiSpace", Rows.laid_strings_asciiSpace) :: r3) W)
  {r4 : List (String × DataW Unit)} (h4 : laidMet Tryd.prog (("internal/strconv.uint64pow10", Rows.laid_internal_strconv_uint64pow10) :: r4) W)
  (hsh : W.ShapedOpen Tryd.prog) : GW W := by
 obtain ⟨a0, s0, hv0, -, -, -⟩ := laid_sentinel h1 (g := 4) (ti := 51) (by kernel_rfl) (by kernel_rfl) Tryd.underlying51 gw_row Tryd.underlying129 Tryd.underlying131 rfl rfl Tryd.underlying9 (by kernel_rfl) (by kernel_rfl)
 obtain ⟨a1, s1, hv1, -, -, -⟩ := laid_sentinel h2 (g := 3) (ti := 51) (by kernel_rfl) (by kernel_rfl) Tryd.underlying51 gw_row Tryd.underlying129 Tryd.underlying131 rfl rfl Tryd.underlying9 (by kernel_rfl) (by kernel_rfl)
 have c0 := World.var?_cell (P := Tryd.prog) (g := 4) (by kernel_rfl) hv0 0
 have c1 := World.var?_cell (P := Tryd.prog) (g := 3) (by kernel_rfl) hv1 0
 obtain ⟨m, hm⟩ := cell_of_shapedOpen_int (P := Tryd.prog) (g := 2) (t := 3) (zero := #[.int .i64 0]) hsh (of_decide_eq_true (by kernel_rfl)) (by kernel_rfl) rfl (by kernel_rfl) (by kernel_rfl) Tryd.underlying3
 have e3 : (Rows.laid_strings_asciiSpace : DataW Unit) = Lib.tabData .u8 Lib.asciiSpaceTab := by kernel_rfl
 rw [e3] at h3
 have hsp : Lib.TabIs Tryd.prog W "strings.asciiSpace" .u8 Lib.asciiSpaceTab := Lib.tabIs_of_head (g := 0) (by kernel_rfl) (by kernel_rfl) Tryd.underlying64 Tryd.underlying5 (by kernel_rfl) (by kernel_rfl) h3
 have e4 : (Rows.laid_internal_strconv_uint64pow10 : DataW Unit) = Lib.tabData .u64 Lib.pow10Tab := by kernel_rfl
 rw [e4] at h4
 have hpow : Lib.TabIs Tryd.prog W "internal/strconv.uint64pow10" .u64 Lib.pow10Tab := Lib.tabIs_of_head (g := 7) (by kernel_rfl) (by kernel_rfl) Tryd.underlying139 Tryd.underlying98 (by kernel_rfl) (by kernel_rfl) h4
 exact {
  range := ⟨a0, by simpa using c0⟩
  syn := ⟨a1, by simpa using c1⟩
  max := ⟨m, hm⟩
  space := hsp
  pow := hpow
 }
end Go.Proofs.YtdbadfcekomomaaDoor.M
end
section
namespace Go.Proofs.YtdbadfcekomomaaDoor.M
open Go.RowKit Go.Proofs.YtdbadfcekomomaaDoorW.PrintWords
set_option linter.unusedVariables false
def bodyOf : List (List UInt8) → List UInt8
 | [] => []
 | f :: fs => f ++ 32 :: bodyOf fs
def findF (p : List UInt8) : List (List UInt8) → Option (List UInt8)
 | [] => none
 | f :: fs => if p.isPrefixOf f = true then some (f.drop p.length) else findF p fs
theorem index_skip (c : UInt8) (p s : List UInt8) : ∀ f : List UInt8, (∀ b ∈ f, b ≠ c) → Lib.index (f ++ s) (c :: p) = if Lib.index s (c :: p) = -1 then -1 else Lib.index s (c :: p) + f.length
 | [], _ => by
  rw [List.nil_append, List.length_nil]
  split
  ·assumption
  ·omega
 | b :: f, h => by
  have hb : (c == b) = false := by
   rw [beq_eq_false_iff_ne]
   exact fun e => h b List.mem_cons_self e.symm
  have ih := index_skip c p s f (fun x hx => h x (List.mem_cons_of_mem _ hx))
  have hge := Lib.index_ge s (c :: p)
  rw [List.cons_append, Lib.index]
  have hp : (c :: p).isPrefixOf (b :: (f ++ s)) = false := by simp [List.isPrefixOf, hb]
  rw [hp, ih]
  by_cases hn : Lib.index s (c :: p) = -1
  ·simp [hn]
  ·rw [if_neg hn]
   have : (Lib.index s (c :: p) + (f.length : Int) == -1) = false := by rw [beq_eq_false_iff_ne]; omega
   simp only [Bool.false_eq_true, if_false, this, if_neg hn, List.length_cons]
   omega
theorem prefix_field (r : List UInt8) : ∀ (p f : List UInt8), (∀ b ∈ p, b ≠ 32) → p.isPrefixOf (f ++ 32 :: r) = p.isPrefixOf f
 | [], f, _ => by simp [List.isPrefixOf]
 | a :: p, [], h => by
  have : (a == 32) = false := by rw [beq_eq_false_iff_ne]; exact h a List.mem_cons_self
  simp [List.isPrefixOf, this]
 | a :: p, b :: f, h => by
  rw [List.cons_append, List.isPrefixOf, List.isPrefixOf, prefix_field r p f (fun x hx => h x (List.mem_cons_of_mem _ hx))]
theorem idx_fields (p : List UInt8) (hp : ∀ b ∈ p, b ≠ 32) (hne : p ≠ []) : ∀ fs : List (List UInt8), (∀ f ∈ fs, ∀ b ∈ f, b ≠ 32) →
  (findF p fs = none ∧ Lib.index (32 :: bodyOf fs) (32 :: p) = -1) ∨ (∃ h r, ∃ i : Nat, findF p fs = some h ∧ Lib.index (32 :: bodyOf fs) (32 :: p) = i ∧ (32 :: bodyOf fs).drop (i + (p.length + 1)) = h ++ 32 :: r ∧ ∃ f ∈ fs, ∃ q, f = q ++ h)
 | [], _ => by
  refine .inl ⟨rfl, ?_⟩
  cases p with
  | nil => exact absurd rfl hne
  | cons a p => rfl
 | f :: fs, hf => by
  have hpre := prefix_field (bodyOf fs) p f hp
  by_cases hm : p.isPrefixOf f = true
  ·refine .inr ⟨f.drop p.length, bodyOf fs, 0, by rw [findF, if_pos hm], ?_, ?_, f, List.mem_cons_self, f.take p.length, (List.take_append_drop _ _).symm⟩
   ·rw [bodyOf, Lib.index]
    have : (32 :: p).isPrefixOf (32 :: (f ++ 32 :: bodyOf fs)) = true := by rw [List.isPrefixOf, hpre, hm]; rfl
    rw [if_pos this]
    rfl
   ·have hl : p.length ≤ f.length := (List.isPrefixOf_iff_prefix.1 hm).length_le
    rw [Nat.zero_add, List.drop_succ_cons, bodyOf, List.drop_append_of_le_length hl]
  ·have hm' : p.isPrefixOf f = false := Bool.eq_false_iff.2 hm
   have hn : (32 :: p).isPrefixOf (32 :: (f ++ 32 :: bodyOf fs)) = false := by rw [List.isPrefixOf, hpre, hm']; rfl
   have hsk := index_skip 32 p (32 :: bodyOf fs) f (hf f List.mem_cons_self)
   rcases idx_fields p hp hne fs (fun g hg => hf g (List.mem_cons_of_mem _ hg)) with ⟨h1, h2⟩ | ⟨h, r, i, h1, h2, h3, g, hg, q, hq⟩
   ·refine .inl ⟨by rw [findF, if_neg hm, h1], ?_⟩
    rw [bodyOf, Lib.index, hn, hsk, h2]
    rfl
   ·refine .inr ⟨h, r, i + f.length + 1, by rw [findF, if_neg hm, h1], ?_, ?_, g, List.mem_cons_of_mem _ hg, q, hq⟩
    ·rw [bodyOf, Lib.index, hn, hsk, h2]
     have e1 : ((i : Int) + (f.length : Int) == -1) = false := by rw [beq_eq_false_iff_ne]; omega
     have e2 : ¬ ((i : Int) = -1) := by omega
     simp only [Bool.false_eq_true, if_false, if_neg e2, e1]
     omega
    ·rw [bodyOf, show i + f.length + 1 + (p.length + 1) = (f.length + (i + (p.length + 1))) + 1 by omega, List.drop_succ_cons, ← List.drop_drop]
     rw [List.drop_left]
     exact h3
theorem cut_blank (h r : List UInt8) (hb : ∀ b ∈ h, b ≠ 32) : (Lib.cut (h ++ 32 :: r) [32]).1 = h := by
 have hi := index_skip 32 [] (32 :: r) h hb
 have h0 : Lib.index (32 :: r) [32] = 0 := by rw [Lib.index, if_pos (by simp [List.isPrefixOf])]
 rw [h0, if_neg (by decide)] at hi
 unfold Lib.cut
 rw [hi, if_pos (by omega)]
 show (h ++ 32 :: r).take (0 + (h.length : Int)).toNat = h
 rw [show (0 + (h.length : Int)).toNat = h.length by omega, List.take_left]
theorem contains_no (q : List UInt8) (h : ∀ b ∈ q, b ≠ 32 ∧ b ≠ 61) : Lib.containsAny q [32, 61] = false := by
 have : ∀ l : List UInt8, (∀ b ∈ l, b ≠ 32 ∧ b ≠ 61) → Lib.indexAny l [32, 61] = -1 := by
  intro l
  induction l with
  | nil => intro _; rfl
  | cons b l ih =>
   intro hl
   have hb := hl b List.mem_cons_self
   have hc : ([32, 61] : List UInt8).contains b = false := by simp [hb.1, hb.2]
   rw [Lib.indexAny, hc, ih (fun x hx => hl x (List.mem_cons_of_mem _ hx))]
   rfl
 unfold Lib.containsAny
 rw [this q h]
 rfl
def rawF (F : List ByteArray) : List (List UInt8) := F.map fun f => f.data.toList
def nmF (f : ByteArray) : ByteArray := ⟨(Lib.cut f.data.toList [61]).1.toArray⟩
def hxF (f : ByteArray) : ByteArray := ⟨(Lib.cut f.data.toList [61]).2.1.toArray⟩
def valsF (f : ByteArray) : List Int := (glyph_values.f (hxF f)).getD []
def nameOk (n : ByteArray) : Bool := decide (n.size ≤ 300) && !n.data.toList.isEmpty && n.data.toList.all fun b => decide (b.toNat < 128) && b != 32 && b != 61
def okF (F : List ByteArray) (f : ByteArray) : Bool := decide (f.size < 1000) && (glyph_values.f (hxF f)).isSome && (f.data.toList.all fun b => b != 32) && nameOk (nmF f) && decide (findF ((nmF f).data.toList ++ [61]) (rawF F) = some (hxF f).data.toList)
def goodF (T : ByteArray) (F : List ByteArray) : Bool := decide (T.size < 1000000) && decide (F.length < 1000) && decide (T.data.toList = 32 :: bodyOf (rawF F)) && F.all (okF F)
structure Glyphs (T : ByteArray) (F : List ByteArray) : Prop where
 size : T.size < 1000000
 len : F.length < 1000
 body : T.data.toList = 32 :: bodyOf (rawF F)
 ok : ∀ f ∈ F, okF F f = true
theorem Glyphs.of {T : ByteArray} {F : List ByteArray} (h : goodF T F = true) : Glyphs T F := by
 simp only [goodF, Bool.and_eq_true, decide_eq_true_eq] at h
 exact ⟨h.1.1.1, h.1.1.2, h.1.2, fun f hf => List.all_eq_true.1 h.2 f hf⟩
structure OkF (F : List ByteArray) (f : ByteArray) : Prop where
 size : f.size < 1000
 vals : glyph_values.f (hxF f) = some (valsF f)
 noBlank : ∀ b ∈ f.data.toList, b ≠ 32
 name : nameOk (nmF f) = true
 found : findF ((nmF f).data.toList ++ [61]) (rawF F) = some (hxF f).data.toList
theorem OkF.of {F : List ByteArray} {f : ByteArray} (h : okF F f = true) : OkF F f := by
 simp only [okF, Bool.and_eq_true, decide_eq_true_eq] at h
 obtain ⟨⟨⟨⟨h1, h2⟩, h3⟩, h4⟩, h5⟩ := h
 refine ⟨h1, ?_, ?_, h4, h5⟩
 ·obtain ⟨v, hv⟩ := Option.isSome_iff_exists.1 h2
  unfold valsF
  rw [hv]; rfl
 ·intro b hb
  have := List.all_eq_true.1 h3 b hb
  simpa using this
theorem name_facts {n : ByteArray} (h : nameOk n = true) : n.size ≤ 300 ∧ n.toList ≠ [] ∧ allAscii n.data.toList = true ∧ (∀ b ∈ n.data.toList, b ≠ 32 ∧ b ≠ 61) := by
 simp only [nameOk, Bool.and_eq_true, decide_eq_true_eq] at h
 obtain ⟨⟨h1, h2⟩, h3⟩ := h
 have h4 : ∀ b ∈ n.data.toList, b.toNat < 128 ∧ b ≠ 32 ∧ b ≠ 61 := by
  intro b hb
  have := List.all_eq_true.1 h3 b hb
  simp only [Bool.and_eq_true, decide_eq_true_eq, bne_iff_ne] at this
  exact ⟨this.1.1, this.1.2, this.2⟩
 refine ⟨h1, ?_, ?_, fun b hb => (h4 b hb).2⟩
 ·rw [toList_data]
  intro e
  rw [e] at h2
  simp at h2
 ·unfold allAscii
  exact List.all_eq_true.2 (fun b hb => decide_eq_true (h4 b hb).1)
/-- Of a name that may be one: what the list says of it. -/
theorem uni_eq2 {T : ByteArray} {F : List ByteArray} (hG : Glyphs T F) {k : Nat} (hT : glyph_list.f k = some T) (a : ByteArray) (h1 : a.size ≤ 400) (h2 : a.toList ≠ []) (h4 : ∀ b ∈ a.data.toList, b ≠ 32 ∧ b ≠ 61) :
  glyph_Uni.f (k + 1) a = match findF (a.data.toList ++ [61]) (rawF F) with
   | none => some ([], false)
   | some h => (glyph_values.f ⟨h.toArray⟩).bind fun v => some (v, true) := by
 have hno : ∀ f ∈ rawF F, ∀ b ∈ f, b ≠ 32 := by
  intro f hf b hb
  obtain ⟨g, hg, rfl⟩ := List.mem_map.1 hf
  exact (OkF.of (hG.ok g hg)).noBlank b hb
 have hca : strings_ContainsAny.f a ⟨#[32, 61]⟩ = some false := by
  unfold strings_ContainsAny.f
  rw [if_pos ⟨by omega, by decide, .inr rfl, by decide⟩]
  exact congrArg some (contains_no _ h4)
 unfold glyph_Uni.f
 rw [if_neg h2, hca, Option.bind_some, glyph_Uni.j0, if_neg (by decide), hT, Option.bind_some]
 have hP : ((⟨#[32]⟩ : ByteArray) ++ a ++ ⟨#[61]⟩).data.toList = 32 :: (a.data.toList ++ [61]) := by simp
 have hs1 : ((⟨#[32]⟩ : ByteArray) ++ a).size = 1 + a.size := by rw [ByteArray.size_append]; rfl
 rw [if_pos (by omega), if_pos (by rw [hs1]; omega)]
 have hc : strings_Cut.f T ((⟨#[32]⟩ : ByteArray) ++ a ++ ⟨#[61]⟩) = some (⟨(Lib.cut (32 :: bodyOf (rawF F)) (32 :: (a.data.toList ++ [61]))).1.toArray⟩, ⟨(Lib.cut (32 :: bodyOf (rawF F)) (32 :: (a.data.toList ++ [61]))).2.1.toArray⟩, (Lib.cut (32 :: bodyOf (rawF F)) (32 :: (a.data.toList ++ [61]))).2.2) := by
  unfold strings_Cut.f
  rw [if_pos (by have := hG.size; omega), hP, hG.body]
 rw [hc, Option.bind_some]
 have hp : ∀ b ∈ a.data.toList ++ [61], b ≠ 32 := by
  intro b hb
  rcases List.mem_append.1 hb with hb | hb
  ·exact (h4 b hb).1
  ·rw [List.mem_singleton.1 hb]; decide
 rcases idx_fields (a.data.toList ++ [61]) hp (by simp) (rawF F) hno with ⟨f1, f2⟩ | ⟨h, r, i, f1, f2, f3, g, hg, q, hq⟩
 ·rw [f1]
  have : Lib.cut (32 :: bodyOf (rawF F)) (32 :: (a.data.toList ++ [61])) = (32 :: bodyOf (rawF F), [], false) := by
   unfold Lib.cut
   rw [f2, if_neg (by decide)]
  rw [this]
  rfl
 ·rw [f1]
  have : Lib.cut (32 :: bodyOf (rawF F)) (32 :: (a.data.toList ++ [61])) = ((32 :: bodyOf (rawF F)).take i, h ++ 32 :: r, true) := by
   unfold Lib.cut
   rw [f2, if_pos (by omega), Int.toNat_natCast, List.length_cons, f3]
  rw [this]
  have hsz : (⟨(h ++ 32 :: r).toArray⟩ : ByteArray).size < 4294967281 := by
   rw [ba_size, ← f3, List.length_drop]
   have h5 := hG.size
   have h6 : T.data.toList.length = T.size := rfl
   rw [hG.body] at h6
   omega
  have hh : ∀ b ∈ h, b ≠ 32 := fun b hb => hno g hg b (by rw [hq]; exact List.mem_append_right _ hb)
  have hc2 : strings_Cut.f ⟨(h ++ 32 :: r).toArray⟩ ⟨#[32]⟩ = some (⟨h.toArray⟩, ⟨(Lib.cut (h ++ 32 :: r) [32]).2.1.toArray⟩, (Lib.cut (h ++ 32 :: r) [32]).2.2) := by
   unfold strings_Cut.f
   rw [if_pos hsz, ba_list, cut_blank h r hh]
  show (if true = true then _ else _) = _
  rw [if_pos rfl, hc2, Option.bind_some]
/-- Of a name of the list. -/
theorem uni_eq {T : ByteArray} {F : List ByteArray} (hG : Glyphs T F) {k : Nat} (hT : glyph_list.f k = some T) (a : ByteArray) (ha : nameOk a = true) :
  glyph_Uni.f (k + 1) a = match findF (a.data.toList ++ [61]) (rawF F) with
   | none => some ([], false)
   | some h => (glyph_values.f ⟨h.toArray⟩).bind fun v => some (v, true) := by
 obtain ⟨h1, h2, -, h4⟩ := name_facts ha
 exact uni_eq2 hG hT a (by omega) h2 h4
theorem uni_in {T : ByteArray} {F : List ByteArray} (hG : Glyphs T F) {k : Nat} (hT : glyph_list.f k = some T) {f : ByteArray} (hf : f ∈ F) : glyph_Uni.f (k + 1) (nmF f) = some (valsF f, true) := by
 have ho := OkF.of (hG.ok f hf)
 rw [uni_eq hG hT (nmF f) ho.name, ho.found]
 show (glyph_values.f ⟨(hxF f).data.toList.toArray⟩).bind _ = _
 rw [← ba_eta, ho.vals]
 rfl
theorem cut_in {F : List ByteArray} {f : ByteArray} (ho : OkF F f) : strings_Cut.f f ⟨#[61]⟩ = some (nmF f, hxF f, (Lib.cut f.data.toList [61]).2.2) := by
 unfold strings_Cut.f
 rw [if_pos (by have := ho.size; omega)]
 rfl
def backIn (r : Int) : List ByteArray → ByteArray × Bool
 | [] => (⟨#[]⟩, false)
 | f :: fs => if valsF f = [r] then (nmF f, true) else backIn r fs
theorem one_rd {l : List Int} {r : Int} : (l.length : Int) = 1 → (rd l 0 = r ↔ l = [r]) := by
 intro h
 match l, h with
 | [x], _ => simp [rd]
theorem back_loopG {F : List ByteArray} (hF : ∀ f ∈ F, okF F f = true) (hl : F.length < 1000) (r : Int) (d : Nat) : ∀ (i k : Nat), F.length - i = d → i ≤ F.length → d < k →
  glyph_Back.l0 k r F F.length i = some (backIn r (F.drop i)) := by
 induction d with
 | zero =>
  intro i k hd hi hk
  obtain ⟨k, rfl⟩ : ∃ m, k = m + 1 := ⟨k - 1, by omega⟩
  rw [glyph_Back.l0, if_neg (by omega), List.drop_eq_nil_of_le (by omega), backIn]
 | succ d ih =>
  intro i k hd hi hk
  obtain ⟨k, rfl⟩ : ∃ m, k = m + 1 := ⟨k - 1, by omega⟩
  have hlt : i < F.length := by omega
  have hw : wrap64 ((i : Int) + 1) = ((i + 1 : Nat) : Int) := by rw [wrap_small (by omega) (by omega)]; omega
  have hr : rdOf ByteArray.empty F (i : Int) = F[i] := by
   unfold rdOf
   rw [Int.toNat_natCast, List.getD_eq_getElem?_getD, List.getElem?_eq_getElem hlt, Option.getD_some]
  have ho := OkF.of (hF _ (List.getElem_mem hlt))
  rw [glyph_Back.l0, if_pos (by omega), if_pos (by omega), if_pos (by omega), hw, hr, cut_in ho, Option.bind_some, ho.vals, Option.bind_some, List.drop_eq_getElem_cons hlt, backIn, ih (i + 1) k (by omega) (by omega) (by omega)]
  by_cases h1 : ((valsF F[i]).length : Int) = 1
  ·rw [if_pos h1, if_pos (by omega)]
   by_cases h2 : valsF F[i] = [r]
   ·rw [if_pos h2, if_pos ((one_rd h1).2 h2)]
   ·rw [if_neg h2, if_neg (fun e => h2 ((one_rd h1).1 e))]
  ·rw [if_neg h1, if_neg (fun e => h1 (by rw [e]; rfl))]
theorem names_loopG {F : List ByteArray} (hF : ∀ f ∈ F, okF F f = true) (hl : F.length < 1000) (d : Nat) : ∀ (i k : Nat) (acc : List ByteArray), F.length - i = d → i ≤ F.length → d < k → acc.length + d < 8796093022208 →
  glyph_Names.l0 k acc F F.length i = some (acc ++ (F.drop i).map nmF) := by
 induction d with
 | zero =>
  intro i k acc hd hi hk ha
  obtain ⟨k, rfl⟩ : ∃ m, k = m + 1 := ⟨k - 1, by omega⟩
  rw [glyph_Names.l0, if_neg (by omega), List.drop_eq_nil_of_le (by omega), List.map_nil, List.append_nil]
 | succ d ih =>
  intro i k acc hd hi hk ha
  obtain ⟨k, rfl⟩ : ∃ m, k = m + 1 := ⟨k - 1, by omega⟩
  have hlt : i < F.length := by omega
  have hw : wrap64 ((i : Int) + 1) = ((i + 1 : Nat) : Int) := by rw [wrap_small (by omega) (by omega)]; omega
  have hr : rdOf ByteArray.empty F (i : Int) = F[i] := by
   unfold rdOf
   rw [Int.toNat_natCast, List.getD_eq_getElem?_getD, List.getElem?_eq_getElem hlt, Option.getD_some]
  have ho := OkF.of (hF _ (List.getElem_mem hlt))
  rw [glyph_Names.l0, if_pos (by omega), if_pos (by omega), if_pos (by omega), hw, hr, cut_in ho, Option.bind_some, if_pos (by omega), ih (i + 1) k _ (by omega) (by omega) (by omega) (by rw [List.length_append, List.length_singleton]; omega), List.drop_eq_getElem_cons hlt, List.map_cons, List.append_assoc]
  rfl
theorem back_eq {T : ByteArray} {F : List ByteArray} (hG : Glyphs T F) {k : Nat} (hk : 1000 ≤ k) (hT : glyph_list.f k = some T) (hF : strings_Fields.f T = some F) (r : Int) : glyph_Back.f k r = some (backIn r F) := by
 unfold glyph_Back.f
 rw [hT, Option.bind_some, hF, Option.bind_some]
 have := back_loopG hG.ok hG.len r F.length 0 k (by omega) (by omega) (by have := hG.len; omega)
 exact this
theorem names_eq {T : ByteArray} {F : List ByteArray} (hG : Glyphs T F) {k : Nat} (hk : 1000 ≤ k) (hT : glyph_list.f k = some T) (hF : strings_Fields.f T = some F) : glyph_Names.f k = some (F.map nmF) := by
 unfold glyph_Names.f
 rw [hT, Option.bind_some, hF, Option.bind_some]
 have := names_loopG hG.ok hG.len F.length 0 k [] (by omega) (by omega) (by have := hG.len; omega) (by have := hG.len; simp; omega)
 exact this
theorem backIn_cases (r : Int) : ∀ fs : List ByteArray, (∃ f ∈ fs, backIn r fs = (nmF f, true) ∧ valsF f = [r]) ∨ (backIn r fs = (⟨#[]⟩, false) ∧ ∀ f ∈ fs, valsF f ≠ [r])
 | [] => .inr ⟨rfl, fun f hf => by cases hf⟩
 | f :: fs => by
  by_cases h : valsF f = [r]
  ·exact .inl ⟨f, List.mem_cons_self, by rw [backIn, if_pos h], h⟩
  ·rw [backIn, if_neg h]
   rcases backIn_cases r fs with ⟨g, hg, h1, h2⟩ | ⟨h1, h2⟩
   ·exact .inl ⟨g, List.mem_cons_of_mem _ hg, h1, h2⟩
   ·refine .inr ⟨h1, fun g hg => ?_⟩
    rcases List.mem_cons.1 hg with rfl | hg
    ·exact h
    ·exact h2 g hg
end Go.Proofs.YtdbadfcekomomaaDoor.M
end
section
namespace Go.Proofs.YtdbadfcekomomaaDoor.M
open Go.RowKit Go.Proofs.YtdbadfcekomomaaDoorW.PrintWords
set_option linter.unusedVariables false
def fieldsK (k : Nat) : Option (ByteArray × List ByteArray) := (glyph_list.f k).bind fun t => (strings_Fields.f t).bind fun F => some (t, F)
def goodK (k : Nat) : Bool := match fieldsK k with
 | some p => goodF p.1 p.2
 | none => false
set_option maxRecDepth 100000 in
theorem goodK_at : goodK 500 = true := by decide +kernel
theorem glyphs_are : ∃ T F, (∀ k, 500 ≤ k → glyph_list.f k = some T) ∧ strings_Fields.f T = some F ∧ Glyphs T F ∧ fieldsK 500 = some (T, F) := by
 have h := goodK_at
 unfold goodK at h
 split at h
 case h_2 => cases h
 rename_i p hp
 have hp' := hp
 unfold fieldsK at hp
 obtain ⟨T, hT, hp⟩ := Option.bind_eq_some_iff.1 hp
 obtain ⟨F, hF, hp⟩ := Option.bind_eq_some_iff.1 hp
 obtain rfl := Option.some.inj hp
 exact ⟨T, F, fun k hk => le_rounds (g := fun k => glyph_list.f k) (fun k => glyph_list.mono k) hT hk, hF, Glyphs.of h, hp'⟩
end Go.Proofs.YtdbadfcekomomaaDoor.M
end
section
namespace Go.Proofs.YtdbadfcekomomaaDoor.M
open Go.RowKit Go.Proofs.YtdbadfcekomomaaDoorW.PrintWords
set_option maxRecDepth 100000 in
theorem awake14_at : hornbooklaw14_awake.f 500 = some true := by decide +kernel
theorem awake14 {k : Nat} (hk : 500 ≤ k) : hornbooklaw14_awake.f k = some true := le_rounds (g := fun k => hornbooklaw14_awake.f k) (fun k => hornbooklaw14_awake.mono k) awake14_at hk
end Go.Proofs.YtdbadfcekomomaaDoor.M
end
section
namespace Go.Proofs.YtdbadfcekomomaaDoor.M
open Go.RowKit Go.Proofs.YtdbadfcekomomaaDoorW.PrintWords
set_option linter.unusedVariables false
def letterAt (r : Nat) (F : List ByteArray) : Bool := (backIn (r : Int) F).2 && decide ((backIn (r : Int) F).1.data.toList = [r.toUInt8])
def placeAt (F : List ByteArray) (j : Nat) : Bool := match F[j]? with
 | some f => decide (valsF f = [((32 + j : Nat) : Int)])
 | none => false
def asciiK : Bool := match fieldsK 500 with
 | some p => (List.range 26).all (fun j => letterAt (65 + j) p.2 && letterAt (97 + j) p.2) && (List.range 95).all (placeAt p.2)
 | none => false
set_option maxRecDepth 100000 in
theorem asciiK_at : asciiK = true := by decide +kernel
theorem text_one (r : Nat) (hr : r ≤ 127) : utf_Text.f [(r : Int)] = some ⟨[r.toUInt8].toArray⟩ := by
 have hg : goodI (r : Int) = (r : Int) := by unfold goodI; rw [if_pos ⟨by omega, by omega, .inl (by omega)⟩]
 unfold utf_Text.f utfBytes
 rw [if_pos (show ([(r : Int)] : List Int).length ≤ 1000000 by simp), List.flatMap_cons, List.flatMap_nil, List.append_nil, hg]
 unfold Lib.encodeRune
 rw [Lib.encodeRuneZ_one (by omega) (by omega)]
 rfl
theorem letter_ok {T : ByteArray} {F : List ByteArray} (hG : Glyphs T F) {k : Nat} (hk : 1000 ≤ k) (hT : ∀ k, 500 ≤ k → glyph_list.f k = some T) (hF : strings_Fields.f T = some F) (r : Nat) (hr : r ≤ 127) (h : letterAt r F = true) :
  ∃ s : ByteArray, utf_Text.f [(r : Int)] = some s ∧ glyph_Uni.f (k + 1) s = some ([(r : Int)], true) ∧ glyph_Back.f (k + 1) (r : Int) = some (s, true) := by
 unfold letterAt at h
 rw [Bool.and_eq_true, decide_eq_true_eq] at h
 rcases backIn_cases (r : Int) F with ⟨f, hf, e1, e2⟩ | ⟨e1, -⟩
 case inr => rw [e1] at h; exact absurd h.1 (by decide)
 rw [e1] at h
 have hs : nmF f = ⟨[r.toUInt8].toArray⟩ := by
  have h2 := h.2
  dsimp only at h2
  generalize nmF f = n at h2
  rcases n with ⟨⟨n⟩⟩
  have : n = [r.toUInt8] := h2
  rw [this]
 refine ⟨_, text_one r hr, ?_, ?_⟩
 ·rw [← hs, uni_in hG (hT k (by omega)) hf, e2]
 ·rw [back_eq hG (by omega) (hT (k + 1) (by omega)) hF, e1, hs]
theorem GlyphAscii : hornbooklaw14_GlyphAscii.Pure := by
 intro a0 _
 obtain ⟨T, F, hT, hF, hG, hK⟩ := glyphs_are
 have hA := asciiK_at
 unfold asciiK at hA
 rw [hK] at hA
 dsimp only at hA
 rw [Bool.and_eq_true] at hA
 have hL := fun j (hj : j < 26) => List.all_eq_true.1 hA.1 j (List.mem_range.2 hj)
 have hP := fun j (hj : j < 95) => List.all_eq_true.1 hA.2 j (List.mem_range.2 hj)
 refine ⟨3000, ?_⟩
 have hm : Go.bits .and .i64 a0 65535 = a0 % 65536 := and_mask a0 16 (by decide) 65535 (by decide)
 obtain ⟨J, hJ, hJ2⟩ : ∃ J : Nat, Int.tmod (a0 % 65536) 26 = (J : Int) ∧ J < 26 := by
  have h := Int.tmod_eq_emod_of_nonneg (a := a0 % 65536) (b := 26) (Int.emod_nonneg _ (by decide))
  rw [h]
  exact ⟨(a0 % 65536 % 26).toNat, by omega, by omega⟩
 obtain ⟨M, hM, hM2⟩ : ∃ M : Nat, Int.tmod (a0 % 65536) 95 = (M : Int) ∧ M < 95 := by
  have h := Int.tmod_eq_emod_of_nonneg (a := a0 % 65536) (b := 95) (Int.emod_nonneg _ (by decide))
  rw [h]
  exact ⟨(a0 % 65536 % 95).toNat, by omega, by omega⟩
 have hLJ := hL J hJ2
 rw [Bool.and_eq_true] at hLJ
 obtain ⟨s1, t1, u1, b1⟩ := letter_ok hG (k := 2998) (by decide) hT hF (65 + J) (by omega) hLJ.1
 obtain ⟨s2, t2, u2, b2⟩ := letter_ok hG (k := 2997) (by decide) hT hF (97 + J) (by omega) hLJ.2
 have w1 : wrap64 ((wrap64 (65 + (J : Int))) + (wrap64 (32 * 0))) = ((65 + J : Nat) : Int) := by
  rw [wrap_small (x := 65 + (J : Int)) (by omega) (by omega), wrap_small (x := 32 * 0) (by decide) (by decide), wrap_small (by omega) (by omega)]; omega
 have w2 : wrap64 ((wrap64 (65 + (J : Int))) + (wrap64 (32 * 1))) = ((97 + J : Nat) : Int) := by
  rw [wrap_small (x := 65 + (J : Int)) (by omega) (by omega), wrap_small (x := 32 * 1) (by decide) (by decide), wrap_small (by omega) (by omega)]; omega
 have hpl := hP M hM2
 unfold placeAt at hpl
 split at hpl
 case h_2 => cases hpl
 rename_i f hf
 have hv := of_decide_eq_true hpl
 have hfm : f ∈ F := List.mem_of_getElem? hf
 have hlenF : M < F.length := (List.getElem?_eq_some_iff.1 hf).1
 have h95 : 95 ≤ F.length := by
  have h := hP 94 (by decide)
  unfold placeAt at h
  split at h
  case h_2 => cases h
  rename_i g hg
  have := (List.getElem?_eq_some_iff.1 hg).1
  omega
 have hnm : rdOf ByteArray.empty (F.map nmF) (M : Int) = nmF f := by
  unfold rdOf
  rw [Int.toNat_natCast, List.getD_eq_getElem?_getD, List.getElem?_map, hf]
  rfl
 have hu := uni_in hG (hT 2996 (by decide)) hfm
 unfold hornbooklaw14_GlyphAscii.f
 rw [awake14 (by decide), Option.bind_some, hm, hJ]
 have r0 : ∀ n : Nat, rd [(n : Int)] 0 = (n : Int) := fun n => rfl
 have l1 : ∀ x : Int, ((([x] : List Int).length : Nat) : Int) = 1 := fun _ => rfl
 have l0 : ∀ x : Int, (0 : Int) < ((([x] : List Int).length : Nat) : Int) := fun _ => (by simp)
 rw [hornbooklaw14_GlyphAscii.l0, if_pos (by decide), w1, t1, Option.bind_some, u1, Option.bind_some, b1, Option.bind_some]
 dsimp only
 rw [if_pos rfl, if_pos (l1 _), if_pos (l0 _), if_pos (r0 _), if_pos rfl, if_pos rfl, show wrap64 (0 + 1) = 1 from wrap_small (by decide) (by decide)]
 rw [hornbooklaw14_GlyphAscii.l0, if_pos (by decide), w2, t2, Option.bind_some, u2, Option.bind_some, b2, Option.bind_some]
 dsimp only
 rw [if_pos rfl, if_pos (l1 _), if_pos (l0 _), if_pos (r0 _), if_pos rfl, if_pos rfl, show wrap64 (1 + 1) = 2 from wrap_small (by decide) (by decide)]
 rw [hornbooklaw14_GlyphAscii.l0, if_neg (by decide), names_eq hG (by decide) (hT 2997 (by decide)) hF, Option.bind_some, hm, hM, if_neg (by rw [List.length_map]; omega), if_pos (by omega), if_pos (by rw [List.length_map]; omega), hnm, hu, Option.bind_some, hv]
 dsimp only
 rw [if_pos rfl, if_pos rfl, if_pos (l1 _), if_pos (l0 _), r0, wrap_small (by omega) (by omega)]
 congr 1
 rw [beq_iff_eq]
 omega
end Go.Proofs.YtdbadfcekomomaaDoor.M
end
section
/- Letters and digits are what they are named: for every number c, the letter that c picks, in both cases, is the one value of its own name and leads back to it, and the name at the place that c picks among the first 95 is the name of the value 32 and that place. -/
namespace Go.Proofs.YtdbadfcekomomaaDoor.glyphAscii
open Go Go.ChangeShapes Go.WideShapes Go.ChangeAt Go.RowKit
open Go.ChangeMaps (open_string shut_string)
set_option linter.unusedVariables false
theorem own : ownKnob Tryd.prog.godebug = none := by kernel_rfl
set_option maxRecDepth 100000 in
theorem lifted (os : Os) (started : os.Started) (H : Type) (enc : TypeId × Value → H) :
  ReturnsInHanded {} Tryd.checked os 5 .any (fun w args => (Rows.glyphAsciiSpec.pre enc Tryd.prog Tryd.f5 Rows.glyphAsciiRow.domain false w args ∧ laidMetH Tryd.prog Rows.glyphAsciiRow.laid w) ∧ sizedMet enc Tryd.prog Tryd.f5 (OpenSpec.ofChange Rows.glyphAsciiSpec) false w args)
   (Rows.glyphAsciiSpec.post enc Tryd.prog Tryd.f5 false true false false) := by
 refine M.returns_both (C := Tryd.checked) (X := fun w _ => laidMetH Tryd.prog Rows.glyphAsciiRow.laid w) (fun _ _ _ hh h => h.of_heap hh) own started (by kernel_rfl) Tryd.func5
  (ChangeSpec.witness_shaped (enc := enc) (C := Tryd.checked) (os := os) (X := fun w _ => laidMetH Tryd.prog Rows.glyphAsciiRow.laid w) false (World.laidAll Tryd.prog os Rows.glyphAsciiRow.laid) #[.int .i64 0] 8 (World.laidAll_os _ _ _)
   (World.shaped_of_ZipB (by kernel_rfl) (by kernel_rfl)) (by kernel_rfl) (by kernel_rfl) (by kernel_rfl)
   (by rw [MakeChecks.laidMetH_plain _ _ _ (by kernel_rfl)]; exact laidMet_laidAll _ (by kernel_rfl) (by kernel_rfl))) ?_
 intro W base args ds gs before hval0 hW hcnd hsz0 hL hshape
 have hsz : (DataW.weightsEach Tryd.prog (Tryd.f5.params.toList ++ Rows.glyphAsciiSpec.plain.varTypes Tryd.prog) (ds ++ gs)).all (· ≤ reachBytes) = true := hsz0
 have hval : ∀ (j : Nat) t v, Tryd.f5.params[j]? = some t → args[j]? = some v → Value.okWide Tryd.prog W .any base t v := hval0
 have hLp := hL
 rw [MakeChecks.laidMetH_plain _ _ _ (by kernel_rfl)] at hLp
 have hG : M.GW W := M.GW.of_mets (hLp.tail.tail.tail.tail) (hLp.tail.tail.tail.tail.tail) (hLp.tail.tail.tail.tail.tail.tail.tail) (hLp.tail.tail) hshape
 have hW' := hW
 obtain ⟨p, q, hA0, hV, rfl, hfz, hnd⟩ := hW
 have hA : DataW.TrodAll enc Tryd.prog W 0 (fun _ => true) true Tryd.f5.params.toList args.toList ds p := hA0
 rw [Tryd.params5] at hA hval hsz
 obtain ⟨v0, vs0, d0, ds0, p0, q0, hargs, rfl, rfl, h0, r0⟩ := trodAll_cons hA
 obtain ⟨rfl, rfl, rfl⟩ := trodAll_nil r0
 obtain rfl : args = #[v0] := by cases args; simp_all
 obtain ⟨rfl, rfl⟩ := trodVars_none hV
 obtain ⟨a0, rfl, rfl, rfl, w0⟩ := open_int Tryd.underlying3 (hval 0 3 v0 rfl rfl) h0
 clear hA0 hval0 hsz0 hsz
 refine (M.hornbooklaw14_GlyphAscii.walk M.GlyphAscii a0 W w0 hG).mono fun e W' ⟨he, bel⟩ => ?_
 subst he
 exact ⟨_, rfl, _, _, _, [], _, [], hW', trodAll_mk1 (shut_bool Tryd.underlying4 _), (trodAll_cons_mk (shut_int Tryd.underlying3 w0) trodAll_mk0), rfl, bel.frame _, fun h => by cases h⟩
theorem over : Rows.glyphAsciiRow.holds Tryd.pinned (OpenSpec.ofChange Rows.glyphAsciiSpec) :=
 OpenClaim.holds_of_wide 5 Tryd.f5 rfl rfl rfl rfl rfl rfl rfl ⟨rfl, rfl, rfl, rfl, rfl⟩ rfl rfl rfl rfl rfl (by kernel_rfl) Tryd.func5 (by kernel_rfl)
  (of_decide_eq_true (by kernel_rfl)) (by unfold Func.isWrapper; first | (rw [if_pos (by decide +kernel)]; kernel_rfl) | (rw [if_neg (by decide +kernel)]; exact ⟨rfl, rfl⟩))
  (fun os started H enc _ => lifted os started H enc)
theorem proved : Rows.GlyphAsciiSaid := over
theorem card : Rows.GlyphAsciiCardSaid :=
 Claim7.holds_tied_plain_at .later [] [.data, .data, .data, .data, .sentinel, .sentinel, .listed, .data, .pinned] true (true, "c5423f193754e5c1b4786623e676175ec33b4a5b946deba5d2643119b74fcdaa") true
  proved (fun _ h => by cases h) (by kernel_rfl) (fun _ h => by cases h) glyphAscii_row_tie rfl ⟨rfl, rfl⟩ (by kernel_rfl) rfl
  (fun f fn hf hfn => by
   obtain rfl : f = 5 := Option.some.inj ((show Tryd.prog.funcNamed "hornbook/hornbooklaw14.GlyphAscii" = some 5 by kernel_rfl).symm.trans hf) |>.symm
   obtain rfl : fn = Tryd.f5 := (Option.some.inj (Tryd.func5.symm.trans hfn)).symm
   exact ⟨by kernel_rfl, fun j t ht => by
    rw [Tryd.params5] at ht
    have hm : t ∈ [3] := by simpa using Array.mem_of_getElem? ht
    have hall : ([3].all fun u => !Tryd.prog.wantsStandIn u) = true := by kernel_rfl
    exact (show Tryd.prog.wantsStandIn t = false by simpa using List.all_eq_true.1 hall t hm)⟩)
  (by kernel_rfl)
end Go.Proofs.YtdbadfcekomomaaDoor.glyphAscii
namespace Go.Proofs.YtdbadfcekomomaaDoor
/-- The statement, under a short name, for the claim. -/
theorem glyphAscii_holds : Rows.GlyphAsciiCardSaid := glyphAscii.card
#print axioms glyphAscii_holds
end Go.Proofs.YtdbadfcekomomaaDoor
end
