/- Of any tokens and any kind, the law SynDeep of hornbooklaw05 answers true: any items within brackets are none, if they may stand there at all; brackets of each kind are closed in order. No condition beside what the row states. -/
/- Packed by this session's program hbpack.py out of this claim's own texts (Q45, Q27, Q16, Q19, Q8, Q7, Wr, Ea, PureSynDeep, Op, LawSynDeep): the same declarations, without those that the claim does not use. -/
import Derived.Test.YtjplnhdplpiogaaGreatDoorPkSynDeep3
import Derived.Deep.RegionLaw
import Derived.Deep.RegionWith
import Derived.Deep.RegionHeld3
import Derived.HandedShaped
import Derived.ProofKit
import Derived.LaidMore
import Derived.Lay
import Derived.Stop.Joined
import Derived.Shelf.Vars
import Derived.Stop.LaidErr
import Derived.Test.YtjplnhdplpiogaaGreatDoorRows
import Derived.Deep.Strs
import Derived.SizedLaws
import Derived.WalkKit
import Derived.OpenShut
import Derived.ShutString
import Derived.ChangeOld
import Derived.Below
import Derived.SevenTiedAt
import Derived.Test.YtjplnhdplpiogaaGreatDoorCards
import Derived.Test.YtjplnhdplpiogaaGreatDoorTie
section
namespace Go.Proofs.YtjplnhdplpiogaaGreatDoor.M
open Go.RowKit Go.Proofs.YtjplnhdplpiogaaGreatDoorW.PrintWords Go.Proofs.YtjplnhdplpiogaaGreatDoorW.PrintLast Go.Proofs.YtjplnhdplpiogaaGreatDoorW.PrintMore
attribute [local go_sem] max2_int min2_int max_two min_two max_three min_three max_four min_four
set_option linter.unusedVariables false
set_option linter.unusedSimpArgs false
def tok_source_worded.f (k : Nat) (a0 : ByteArray) (a1 : Int) : Option (Int × Int × Int × ByteArray × Int × Int) := (lex_Word.f k a0 a1).bind fun bt149 => ((lex_Int.f bt149.1).bind fun bt151 => (if bt151.2 = 0 then (some (1, a1, bt151.1, (⟨#[]⟩ : ByteArray), bt149.2, 0)) else (if bt151.2 = 3 then (some (3, a1, 0, bt149.1, bt149.2, 0)) else (some (0, 0, 0, (⟨#[]⟩ : ByteArray), a1, bt151.2)))))
theorem tok_source_worded.mono : ∀ a0 a1 k, LeO (tok_source_worded.f k a0 a1) (tok_source_worded.f (k + 1) a0 a1) := by
 intro a0 a1 k
 unfold tok_source_worded.f
 repeat' first
   | (with_reducible exact lex_Word.mono _ _ _)
   | (with_reducible exact LeO.refl _)
   | (with_reducible exact LeO.none _)
   | (with_reducible refine LeO.ite ?_ ?_)
   | (with_reducible refine LeO.bind ?_ (fun _ => ?_))
   | exact lex_Word.mono _ _ _
   | exact LeO.none _
   | refine LeO.ite ?_ ?_
   | refine LeO.bind ?_ (fun _ => ?_)
set_option maxHeartbeats 8000000 in
set_option maxRecDepth 100000 in
theorem tok_source_worded.calls (k : Nat) (a0 : ByteArray) (a1 : Int) (r1 : Int) (r2 : Int) (r3 : Int) (r4 : ByteArray) (r5 : Int) (r6 : Int) (w : World) (hG : GW w) (h : tok_source_worded.f k a0 a1 = some (r1, r2, r3, r4, r5, r6)) :
  Calls Tryz.prog 45 #[.string a0, .int .i64 a1] w fun e w' => e = .returned (.tuple #[.agg #[.int .i64 r1, .int .i64 r2, .int .i64 r3, .string r4], .int .i64 r5, .int .i64 r6]) ∧ Below w.heap.size w w' := by
 have hu40 := Tryz.underlying40
 have HG := Aside0.mk hG
 clear hG
 have HB := Aside0.mk (Below.refl w.heap.size w)
 have H : ((lex_Word.f k a0 a1).bind fun bt149 => ((lex_Int.f bt149.1).bind fun bt151 => (if bt151.2 = 0 then (some (1, a1, bt151.1, (⟨#[]⟩ : ByteArray), bt149.2, 0)) else (if bt151.2 = 3 then (some (3, a1, 0, bt149.1, bt149.2, 0)) else (some (0, 0, 0, (⟨#[]⟩ : ByteArray), a1, bt151.2)))))) = some (r1, r2, r3, r4, r5, r6) := h
 clear h
 replace H := Option.bind_eq_some_iff.mp H
 obtain ⟨⟨t149, t150⟩, A30, H⟩ := H
 replace H : ((lex_Int.f t149).bind fun bt151 => (if bt151.2 = 0 then (some (1, a1, bt151.1, (⟨#[]⟩ : ByteArray), t150, 0)) else (if bt151.2 = 3 then (some (3, a1, 0, t149, t150, 0)) else (some (0, 0, 0, (⟨#[]⟩ : ByteArray), a1, bt151.2))))) = some (r1, r2, r3, r4, r5, r6) := H
 have A3 := Aside0.mk A30
 clear A30
 replace H := Option.bind_eq_some_iff.mp H
 obtain ⟨⟨t151, t152⟩, A40, H⟩ := H
 replace H : (if t152 = 0 then (some (1, a1, t151, (⟨#[]⟩ : ByteArray), t150, 0)) else (if t152 = 3 then (some (3, a1, 0, t149, t150, 0)) else (some (0, 0, 0, (⟨#[]⟩ : ByteArray), a1, t152)))) = some (r1, r2, r3, r4, r5, r6) := H
 have A4 := Aside0.mk A40
 clear A40
 by_cases c5 : t152 = 0
 ·rw [if_pos c5] at H
  have c5b0 : (t152 == 0) = true := beq_iff_eq.mpr c5
  have c5b1 : (t152 != 0) = false := bne_eq_false_iff_eq.mpr c5
  clear c5
  simp only [Option.some.injEq, Prod.mk.injEq] at H
  obtain ⟨rfl, rfl, rfl, rfl, rfl, rfl⟩ := H
  go_enter Tryz.func45, Tryz.ntmps45
  go_wp2_with (first | ((with_reducible refine gate_dst (N := 4) rfl ?_); refine box_event ?hg (N := 4) ?hd (cs := #[.int .i64 0, .int .i64 0, .int .i64 0, .string (⟨#[]⟩ : ByteArray)]) (t := 40) ?hr ?_; (case hd => rfl); (case hg => rfl); (case hr => first | (go_simp; done) | (go_simp; rfl)); intro gb148 hg w6 hbox hb; have n0_ := Aside0.mk (below_step (by repeat (first | (with_reducible first | exact HB.out | apply below_alloc | apply pw_below_drewN | apply below_drew1) | exact HB.out)) hb); have n1_ := Aside0.mk (hbox); have n2_ := Aside0.mk ((by rw [hg]; exact (below_size (by repeat (first | (with_reducible first | exact HB.out | apply below_alloc | apply pw_below_drewN | apply below_drew1) | exact HB.out))) : w.heap.size ≤ gb148)); have n3_ := Aside0.mk ((by rw [hg]; exact (below_size (by repeat (first | (with_reducible first | exact HB.out | apply below_alloc | apply pw_below_drewN | apply below_drew1) | exact HB.out))) : w.heap.size ≤ gb148)); clear HB; have HB := n0_; have BK148 := n1_; have GW148 := n2_; have GE148 := n3_; clear n0_ n1_ n2_ n3_; clear hb hbox hg) | ((with_reducible refine gate_callee (f := 41) rfl ?_); refine goesL_ (some 14) rfl rfl Tryz.func41 (by kernel_rfl) rfl #[.string a0, .int .i64 a1] rfl (by (try simp only [List.map_toArray, List.map_cons, List.map_nil]); first | done | rfl | (simp only [List.length_drop, List.length_take]; rfl)) ?_; (with_reducible refine (lex_Word.calls k a0 a1 t149 t150 _ A3.out).mono ?_); rintro e w7 ⟨rfl, hb⟩; refine ⟨_, rfl, ?_⟩; have n0_ := Aside0.mk (blk_below (g := gb148) (o := .cells #[.int .i64 0, .int .i64 0, .int .i64 0, .string (⟨#[]⟩ : ByteArray)] 40 (0, 0)) (by (with_reducible repeat (first | refine blk_drewN ?_ _ | refine blk_drew ?_ | refine blk_alloc ?_ _)); exact BK148.out) hb); have n1_ := Aside0.mk (below_step (by repeat (first | (with_reducible first | exact HB.out | apply below_alloc | apply pw_below_drewN | apply below_drew1 | refine below_set ?_ GE148.out) | exact HB.out)) hb); clear BK148; clear HB; have BK148 := n0_; have HB := n1_; clear n0_ n1_; (try clear hb); (try clear hb2); (try clear hk); (try clear hi)) | ((with_reducible refine gate_callee (f := 73) rfl ?_); refine goesL_ (some 19) rfl rfl Tryz.func73 (by kernel_rfl) rfl #[.string t149] rfl (by (try simp only [List.map_toArray, List.map_cons, List.map_nil]); first | done | rfl | (simp only [List.length_drop, List.length_take]; rfl)) ?_; (with_reducible refine (lex_Int.calls t149 t151 t152 _ ?side1 A4.out).mono ?_); (case side1 => exact GW.below (by repeat (first | (with_reducible first | exact HB.out | apply below_alloc | apply pw_below_drewN | apply below_drew1 | refine below_set ?_ GE148.out) | exact HB.out)) HG.out); rintro e w8 ⟨rfl, hb⟩; refine ⟨_, rfl, ?_⟩; have n0_ := Aside0.mk (blk_below (g := gb148) (o := .cells #[.int .i64 0, .int .i64 0, .int .i64 0, .string (⟨#[]⟩ : ByteArray)] 40 (0, 0)) (by (with_reducible repeat (first | refine blk_drewN ?_ _ | refine blk_drew ?_ | refine blk_alloc ?_ _)); exact BK148.out) hb); have n1_ := Aside0.mk (below_step (by repeat (first | (with_reducible first | exact HB.out | apply below_alloc | apply pw_below_drewN | apply below_drew1 | refine below_set ?_ GE148.out) | exact HB.out)) hb); clear BK148; clear HB; have BK148 := n0_; have HB := n1_; clear n0_ n1_; (try clear hb); (try clear hb2); (try clear hk); (try clear hi); have hcz9_0 : w8.cell? ⟨gb148, 0, none⟩ = some (.int .i64 0) := (blk_cell BK148.out 0).trans rfl; have hcz9_1 : w8.cell? ⟨gb148, 1, none⟩ = some (.int .i64 0) := (blk_cell BK148.out 1).trans rfl; have hcz9_2 : w8.cell? ⟨gb148, 2, none⟩ = some (.int .i64 0) := (blk_cell BK148.out 2).trans rfl; have hcz9_3 : w8.cell? ⟨gb148, 3, none⟩ = some (.string (⟨#[]⟩ : ByteArray)) := (blk_cell BK148.out 3).trans rfl; have hfz9_0 := blk_frozen BK148.out 0; have hfz9_1 := blk_frozen BK148.out 1; have hfz9_2 := blk_frozen BK148.out 2; have hfz9_3 := blk_frozen BK148.out 3))
  refine bodyPost_ret (results_ctt rfl _ _ gb148 40 #[.int .i64 1, .int .i64 a1, .int .i64 t151, .string (⟨#[]⟩ : ByteArray)] (0, 0) _ rfl (by (with_reducible repeat (first | refine blk_drewN ?_ _ | refine blk_drew ?_ | refine blk_alloc ?_ _)); refine blk_put (cs := #[.int .i64 1, .int .i64 a1, .int .i64 t151, .string (⟨#[]⟩ : ByteArray)]) ?_ 3 _ rfl; (with_reducible repeat (first | refine blk_drewN ?_ _ | refine blk_drew ?_ | refine blk_alloc ?_ _)); refine blk_put (cs := #[.int .i64 1, .int .i64 a1, .int .i64 0, .string (⟨#[]⟩ : ByteArray)]) ?_ 2 _ rfl; (with_reducible repeat (first | refine blk_drewN ?_ _ | refine blk_drew ?_ | refine blk_alloc ?_ _)); refine blk_put (cs := #[.int .i64 1, .int .i64 0, .int .i64 0, .string (⟨#[]⟩ : ByteArray)]) ?_ 1 _ rfl; (with_reducible repeat (first | refine blk_drewN ?_ _ | refine blk_drew ?_ | refine blk_alloc ?_ _)); refine blk_put (cs := #[.int .i64 0, .int .i64 0, .int .i64 0, .string (⟨#[]⟩ : ByteArray)]) ?_ 0 _ rfl; (with_reducible repeat (first | refine blk_drewN ?_ _ | refine blk_drew ?_ | refine blk_alloc ?_ _)); exact BK148.out) Tryz.underlying40 rfl (by kernel_rfl)) rfl ?_
  exact ⟨by first | rfl | (simp [errW_none, errW_some] <;> rfl) | (simp [*, errW_none, errW_some] <;> rfl), by repeat (first | (with_reducible first | exact HB.out | apply below_alloc | apply pw_below_drewN | apply below_drew1 | refine below_set ?_ GE148.out) | exact HB.out)⟩
 ·rw [if_neg c5] at H
  have c5b0 : (t152 == 0) = false := beq_eq_false_iff_ne.mpr c5
  have c5b1 : (t152 != 0) = true := bne_iff_ne.mpr c5
  by_cases c10 : t152 = 3
  ·rw [if_pos c10] at H
   have c10b0 : (t152 == 3) = true := beq_iff_eq.mpr c10
   have c10b1 : (t152 != 3) = false := bne_eq_false_iff_eq.mpr c10
   clear c10
   simp only [Option.some.injEq, Prod.mk.injEq] at H
   obtain ⟨rfl, rfl, rfl, rfl, rfl, rfl⟩ := H
   go_enter Tryz.func45, Tryz.ntmps45
   go_wp2_with (first | ((with_reducible refine gate_dst (N := 4) rfl ?_); refine box_event ?hg (N := 4) ?hd (cs := #[.int .i64 0, .int .i64 0, .int .i64 0, .string (⟨#[]⟩ : ByteArray)]) (t := 40) ?hr ?_; (case hd => rfl); (case hg => rfl); (case hr => first | (go_simp; done) | (go_simp; rfl)); intro gb148 hg w11 hbox hb; have n0_ := Aside0.mk (below_step (by repeat (first | (with_reducible first | exact HB.out | apply below_alloc | apply pw_below_drewN | apply below_drew1) | exact HB.out)) hb); have n1_ := Aside0.mk (hbox); have n2_ := Aside0.mk ((by rw [hg]; exact (below_size (by repeat (first | (with_reducible first | exact HB.out | apply below_alloc | apply pw_below_drewN | apply below_drew1) | exact HB.out))) : w.heap.size ≤ gb148)); have n3_ := Aside0.mk ((by rw [hg]; exact (below_size (by repeat (first | (with_reducible first | exact HB.out | apply below_alloc | apply pw_below_drewN | apply below_drew1) | exact HB.out))) : w.heap.size ≤ gb148)); clear HB; have HB := n0_; have BK148 := n1_; have GW148 := n2_; have GE148 := n3_; clear n0_ n1_ n2_ n3_; clear hb hbox hg) | ((with_reducible refine gate_callee (f := 41) rfl ?_); refine goesL_ (some 14) rfl rfl Tryz.func41 (by kernel_rfl) rfl #[.string a0, .int .i64 a1] rfl (by (try simp only [List.map_toArray, List.map_cons, List.map_nil]); first | done | rfl | (simp only [List.length_drop, List.length_take]; rfl)) ?_; (with_reducible refine (lex_Word.calls k a0 a1 t149 t150 _ A3.out).mono ?_); rintro e w12 ⟨rfl, hb⟩; refine ⟨_, rfl, ?_⟩; have n0_ := Aside0.mk (blk_below (g := gb148) (o := .cells #[.int .i64 0, .int .i64 0, .int .i64 0, .string (⟨#[]⟩ : ByteArray)] 40 (0, 0)) (by (with_reducible repeat (first | refine blk_drewN ?_ _ | refine blk_drew ?_ | refine blk_alloc ?_ _)); exact BK148.out) hb); have n1_ := Aside0.mk (below_step (by repeat (first | (with_reducible first | exact HB.out | apply below_alloc | apply pw_below_drewN | apply below_drew1 | refine below_set ?_ GE148.out) | exact HB.out)) hb); clear BK148; clear HB; have BK148 := n0_; have HB := n1_; clear n0_ n1_; (try clear hb); (try clear hb2); (try clear hk); (try clear hi)) | ((with_reducible refine gate_callee (f := 73) rfl ?_); refine goesL_ (some 19) rfl rfl Tryz.func73 (by kernel_rfl) rfl #[.string t149] rfl (by (try simp only [List.map_toArray, List.map_cons, List.map_nil]); first | done | rfl | (simp only [List.length_drop, List.length_take]; rfl)) ?_; (with_reducible refine (lex_Int.calls t149 t151 t152 _ ?side1 A4.out).mono ?_); (case side1 => exact GW.below (by repeat (first | (with_reducible first | exact HB.out | apply below_alloc | apply pw_below_drewN | apply below_drew1 | refine below_set ?_ GE148.out) | exact HB.out)) HG.out); rintro e w13 ⟨rfl, hb⟩; refine ⟨_, rfl, ?_⟩; have n0_ := Aside0.mk (blk_below (g := gb148) (o := .cells #[.int .i64 0, .int .i64 0, .int .i64 0, .string (⟨#[]⟩ : ByteArray)] 40 (0, 0)) (by (with_reducible repeat (first | refine blk_drewN ?_ _ | refine blk_drew ?_ | refine blk_alloc ?_ _)); exact BK148.out) hb); have n1_ := Aside0.mk (below_step (by repeat (first | (with_reducible first | exact HB.out | apply below_alloc | apply pw_below_drewN | apply below_drew1 | refine below_set ?_ GE148.out) | exact HB.out)) hb); clear BK148; clear HB; have BK148 := n0_; have HB := n1_; clear n0_ n1_; (try clear hb); (try clear hb2); (try clear hk); (try clear hi); have hcz14_0 : w13.cell? ⟨gb148, 0, none⟩ = some (.int .i64 0) := (blk_cell BK148.out 0).trans rfl; have hcz14_1 : w13.cell? ⟨gb148, 1, none⟩ = some (.int .i64 0) := (blk_cell BK148.out 1).trans rfl; have hcz14_2 : w13.cell? ⟨gb148, 2, none⟩ = some (.int .i64 0) := (blk_cell BK148.out 2).trans rfl; have hcz14_3 : w13.cell? ⟨gb148, 3, none⟩ = some (.string (⟨#[]⟩ : ByteArray)) := (blk_cell BK148.out 3).trans rfl; have hfz14_0 := blk_frozen BK148.out 0; have hfz14_1 := blk_frozen BK148.out 1; have hfz14_2 := blk_frozen BK148.out 2; have hfz14_3 := blk_frozen BK148.out 3))
   refine bodyPost_ret (results_ctt rfl _ _ gb148 40 #[.int .i64 3, .int .i64 a1, .int .i64 0, .string t149] (0, 0) _ rfl (by (with_reducible repeat (first | refine blk_drewN ?_ _ | refine blk_drew ?_ | refine blk_alloc ?_ _)); refine blk_put (cs := #[.int .i64 3, .int .i64 a1, .int .i64 0, .string (⟨#[]⟩ : ByteArray)]) ?_ 3 _ rfl; (with_reducible repeat (first | refine blk_drewN ?_ _ | refine blk_drew ?_ | refine blk_alloc ?_ _)); refine blk_put (cs := #[.int .i64 3, .int .i64 a1, .int .i64 0, .string (⟨#[]⟩ : ByteArray)]) ?_ 2 _ rfl; (with_reducible repeat (first | refine blk_drewN ?_ _ | refine blk_drew ?_ | refine blk_alloc ?_ _)); refine blk_put (cs := #[.int .i64 3, .int .i64 0, .int .i64 0, .string (⟨#[]⟩ : ByteArray)]) ?_ 1 _ rfl; (with_reducible repeat (first | refine blk_drewN ?_ _ | refine blk_drew ?_ | refine blk_alloc ?_ _)); refine blk_put (cs := #[.int .i64 0, .int .i64 0, .int .i64 0, .string (⟨#[]⟩ : ByteArray)]) ?_ 0 _ rfl; (with_reducible repeat (first | refine blk_drewN ?_ _ | refine blk_drew ?_ | refine blk_alloc ?_ _)); exact BK148.out) Tryz.underlying40 rfl (by kernel_rfl)) rfl ?_
   exact ⟨by first | rfl | (simp [errW_none, errW_some] <;> rfl) | (simp [*, errW_none, errW_some] <;> rfl), by repeat (first | (with_reducible first | exact HB.out | apply below_alloc | apply pw_below_drewN | apply below_drew1 | refine below_set ?_ GE148.out) | exact HB.out)⟩
  ·rw [if_neg c10] at H
   have c10b0 : (t152 == 3) = false := beq_eq_false_iff_ne.mpr c10
   have c10b1 : (t152 != 3) = true := bne_iff_ne.mpr c10
   simp only [Option.some.injEq, Prod.mk.injEq] at H
   obtain ⟨rfl, rfl, rfl, rfl, rfl, rfl⟩ := H
   go_enter Tryz.func45, Tryz.ntmps45
   go_wp2_with (first | ((with_reducible refine gate_dst (N := 4) rfl ?_); refine box_event ?hg (N := 4) ?hd (cs := #[.int .i64 0, .int .i64 0, .int .i64 0, .string (⟨#[]⟩ : ByteArray)]) (t := 40) ?hr ?_; (case hd => rfl); (case hg => rfl); (case hr => first | (go_simp; done) | (go_simp; rfl)); intro gb148 hg w15 hbox hb; have n0_ := Aside0.mk (below_step (by repeat (first | (with_reducible first | exact HB.out | apply below_alloc | apply pw_below_drewN | apply below_drew1) | exact HB.out)) hb); have n1_ := Aside0.mk (hbox); have n2_ := Aside0.mk ((by rw [hg]; exact (below_size (by repeat (first | (with_reducible first | exact HB.out | apply below_alloc | apply pw_below_drewN | apply below_drew1) | exact HB.out))) : w.heap.size ≤ gb148)); have n3_ := Aside0.mk ((by rw [hg]; exact (below_size (by repeat (first | (with_reducible first | exact HB.out | apply below_alloc | apply pw_below_drewN | apply below_drew1) | exact HB.out))) : w.heap.size ≤ gb148)); clear HB; have HB := n0_; have BK148 := n1_; have GW148 := n2_; have GE148 := n3_; clear n0_ n1_ n2_ n3_; clear hb hbox hg) | ((with_reducible refine gate_callee (f := 41) rfl ?_); refine goesL_ (some 14) rfl rfl Tryz.func41 (by kernel_rfl) rfl #[.string a0, .int .i64 a1] rfl (by (try simp only [List.map_toArray, List.map_cons, List.map_nil]); first | done | rfl | (simp only [List.length_drop, List.length_take]; rfl)) ?_; (with_reducible refine (lex_Word.calls k a0 a1 t149 t150 _ A3.out).mono ?_); rintro e w16 ⟨rfl, hb⟩; refine ⟨_, rfl, ?_⟩; have n0_ := Aside0.mk (blk_below (g := gb148) (o := .cells #[.int .i64 0, .int .i64 0, .int .i64 0, .string (⟨#[]⟩ : ByteArray)] 40 (0, 0)) (by (with_reducible repeat (first | refine blk_drewN ?_ _ | refine blk_drew ?_ | refine blk_alloc ?_ _)); exact BK148.out) hb); have n1_ := Aside0.mk (below_step (by repeat (first | (with_reducible first | exact HB.out | apply below_alloc | apply pw_below_drewN | apply below_drew1 | refine below_set ?_ GE148.out) | exact HB.out)) hb); clear BK148; clear HB; have BK148 := n0_; have HB := n1_; clear n0_ n1_; (try clear hb); (try clear hb2); (try clear hk); (try clear hi)) | ((with_reducible refine gate_callee (f := 73) rfl ?_); refine goesL_ (some 19) rfl rfl Tryz.func73 (by kernel_rfl) rfl #[.string t149] rfl (by (try simp only [List.map_toArray, List.map_cons, List.map_nil]); first | done | rfl | (simp only [List.length_drop, List.length_take]; rfl)) ?_; (with_reducible refine (lex_Int.calls t149 t151 t152 _ ?side1 A4.out).mono ?_); (case side1 => exact GW.below (by repeat (first | (with_reducible first | exact HB.out | apply below_alloc | apply pw_below_drewN | apply below_drew1 | refine below_set ?_ GE148.out) | exact HB.out)) HG.out); rintro e w17 ⟨rfl, hb⟩; refine ⟨_, rfl, ?_⟩; have n0_ := Aside0.mk (blk_below (g := gb148) (o := .cells #[.int .i64 0, .int .i64 0, .int .i64 0, .string (⟨#[]⟩ : ByteArray)] 40 (0, 0)) (by (with_reducible repeat (first | refine blk_drewN ?_ _ | refine blk_drew ?_ | refine blk_alloc ?_ _)); exact BK148.out) hb); have n1_ := Aside0.mk (below_step (by repeat (first | (with_reducible first | exact HB.out | apply below_alloc | apply pw_below_drewN | apply below_drew1 | refine below_set ?_ GE148.out) | exact HB.out)) hb); clear BK148; clear HB; have BK148 := n0_; have HB := n1_; clear n0_ n1_; (try clear hb); (try clear hb2); (try clear hk); (try clear hi); have hcz18_0 : w17.cell? ⟨gb148, 0, none⟩ = some (.int .i64 0) := (blk_cell BK148.out 0).trans rfl; have hcz18_1 : w17.cell? ⟨gb148, 1, none⟩ = some (.int .i64 0) := (blk_cell BK148.out 1).trans rfl; have hcz18_2 : w17.cell? ⟨gb148, 2, none⟩ = some (.int .i64 0) := (blk_cell BK148.out 2).trans rfl; have hcz18_3 : w17.cell? ⟨gb148, 3, none⟩ = some (.string (⟨#[]⟩ : ByteArray)) := (blk_cell BK148.out 3).trans rfl; have hfz18_0 := blk_frozen BK148.out 0; have hfz18_1 := blk_frozen BK148.out 1; have hfz18_2 := blk_frozen BK148.out 2; have hfz18_3 := blk_frozen BK148.out 3))
   refine bodyPost_ret (results_ctt rfl _ _ gb148 40 #[.int .i64 0, .int .i64 0, .int .i64 0, .string (⟨#[]⟩ : ByteArray)] (0, 0) _ rfl (by (with_reducible repeat (first | refine blk_drewN ?_ _ | refine blk_drew ?_ | refine blk_alloc ?_ _)); refine blk_put (cs := #[.int .i64 0, .int .i64 0, .int .i64 0, .string (⟨#[]⟩ : ByteArray)]) ?_ 3 _ rfl; (with_reducible repeat (first | refine blk_drewN ?_ _ | refine blk_drew ?_ | refine blk_alloc ?_ _)); refine blk_put (cs := #[.int .i64 0, .int .i64 0, .int .i64 0, .string (⟨#[]⟩ : ByteArray)]) ?_ 2 _ rfl; (with_reducible repeat (first | refine blk_drewN ?_ _ | refine blk_drew ?_ | refine blk_alloc ?_ _)); refine blk_put (cs := #[.int .i64 0, .int .i64 0, .int .i64 0, .string (⟨#[]⟩ : ByteArray)]) ?_ 1 _ rfl; (with_reducible repeat (first | refine blk_drewN ?_ _ | refine blk_drew ?_ | refine blk_alloc ?_ _)); refine blk_put (cs := #[.int .i64 0, .int .i64 0, .int .i64 0, .string (⟨#[]⟩ : ByteArray)]) ?_ 0 _ rfl; (with_reducible repeat (first | refine blk_drewN ?_ _ | refine blk_drew ?_ | refine blk_alloc ?_ _)); exact BK148.out) Tryz.underlying40 rfl (by kernel_rfl)) rfl ?_
   exact ⟨by first | rfl | (simp [errW_none, errW_some] <;> rfl) | (simp [*, errW_none, errW_some] <;> rfl), by repeat (first | (with_reducible first | exact HB.out | apply below_alloc | apply pw_below_drewN | apply below_drew1 | refine below_set ?_ GE148.out) | exact HB.out)⟩
def tok_Next.j0 : Nat → ByteArray → Int → ByteArray → Int → Bool → Option (Int × Int × Int × ByteArray × Int × Int)
 | 0, _, _, _, _, _ => none
 | k + 1, x0, x7, x8, x37, x38 => if x38 = true then (some (0, 0, 0, (⟨#[]⟩ : ByteArray), x7, 3)) else (if x37 = 47 then ((lex_Word.f k x0 (wrap64 (x7 + 1))).bind fun bt162 => ((lex_Name.f bt162.1).bind fun t164 => (some (2, x7, 0, t164, bt162.2, 0)))) else (if x37 = 60 then ((tok_source_hexed.f k x8 x7).bind fun bt165 => (some (bt165.1, bt165.2.1, bt165.2.2.1, bt165.2.2.2.1, bt165.2.2.2.2.1, bt165.2.2.2.2.2))) else (if x37 = 40 then ((tok_source_strung.f k x8 x7).bind fun bt171 => (some (bt171.1, bt171.2.1, bt171.2.2.1, bt171.2.2.2.1, bt171.2.2.2.2.1, bt171.2.2.2.2.2))) else ((tok_source_worded.f k x8 x7).bind fun bt177 => (some (bt177.1, bt177.2.1, bt177.2.2.1, bt177.2.2.2.1, bt177.2.2.2.2.1, bt177.2.2.2.2.2))))))
def tok_Next.f (k : Nat) (a0 : ByteArray) (a1 : Int) : Option (Int × Int × Int × ByteArray × Int × Int) := (lex_Skip.f k a0 a1).bind fun t154 => (if t154 = (a0.size : Int) then (some (0, t154, 0, (⟨#[]⟩ : ByteArray), t154, 0)) else ((tok_source_sign.f a0 t154).bind fun bt155 => (if bt155.2.2.2.2.2 = true then (some (bt155.1, bt155.2.1, bt155.2.2.1, bt155.2.2.2.1, bt155.2.2.2.2.1, 0)) else (if 0 ≤ t154 then (if t154 < (a0.size : Int) then (if (bt a0 t154) = 41 then (tok_Next.j0 k a0 t154 a0 (bt a0 t154) ((bt a0 t154) == 41)) else (tok_Next.j0 k a0 t154 a0 (bt a0 t154) ((bt a0 t154) == 62))) else (none)) else (none)))))
theorem tok_Next.mono_l : ∀ k, (∀ y0 y1 y2 y3 y4, LeO (tok_Next.j0 k y0 y1 y2 y3 y4) (tok_Next.j0 (k + 1) y0 y1 y2 y3 y4))
 | 0 => fun _ _ _ _ _ r h => by simp [tok_Next.j0] at h
 | k + 1 => by
  have ih0 := tok_Next.mono_l k
  ·intro y0 y1 y2 y3 y4
   unfold tok_Next.j0
   repeat' first
   | (with_reducible exact ih0 _ _ _ _ _)
   | (with_reducible exact lex_Skip.mono _ _ _)
   | (with_reducible exact lex_Word.mono _ _ _)
   | (with_reducible exact tok_source_hexed.mono _ _ _)
   | (with_reducible exact tok_source_strung.mono _ _ _)
   | (with_reducible exact tok_source_worded.mono _ _ _)
   | (with_reducible exact LeO.refl _)
   | (with_reducible exact LeO.none _)
   | (with_reducible refine LeO.ite ?_ ?_)
   | (with_reducible refine LeO.bind ?_ (fun _ => ?_))
   | exact ih0 _ _ _ _ _
   | exact lex_Skip.mono _ _ _
   | exact lex_Word.mono _ _ _
   | exact tok_source_hexed.mono _ _ _
   | exact tok_source_strung.mono _ _ _
   | exact tok_source_worded.mono _ _ _
   | exact LeO.none _
   | refine LeO.ite ?_ ?_
   | refine LeO.bind ?_ (fun _ => ?_)
theorem tok_Next.mono : ∀ a0 a1 k, LeO (tok_Next.f k a0 a1) (tok_Next.f (k + 1) a0 a1) := by
 intro a0 a1 k
 have ih0 := tok_Next.mono_l k
 unfold tok_Next.f
 repeat' first
   | (with_reducible exact ih0 _ _ _ _ _)
   | (with_reducible exact lex_Skip.mono _ _ _)
   | (with_reducible exact lex_Word.mono _ _ _)
   | (with_reducible exact tok_source_hexed.mono _ _ _)
   | (with_reducible exact tok_source_strung.mono _ _ _)
   | (with_reducible exact tok_source_worded.mono _ _ _)
   | (with_reducible exact LeO.refl _)
   | (with_reducible exact LeO.none _)
   | (with_reducible refine LeO.ite ?_ ?_)
   | (with_reducible refine LeO.bind ?_ (fun _ => ?_))
   | exact ih0 _ _ _ _ _
   | exact lex_Skip.mono _ _ _
   | exact lex_Word.mono _ _ _
   | exact tok_source_hexed.mono _ _ _
   | exact tok_source_strung.mono _ _ _
   | exact tok_source_worded.mono _ _ _
   | exact LeO.none _
   | refine LeO.ite ?_ ?_
   | refine LeO.bind ?_ (fun _ => ?_)
set_option maxHeartbeats 8000000 in
set_option maxRecDepth 100000 in
theorem tok_Next.calls (k : Nat) (a0 : ByteArray) (a1 : Int) (r1 : Int) (r2 : Int) (r3 : Int) (r4 : ByteArray) (r5 : Int) (r6 : Int) (w : World) (hG : GW w) (h : tok_Next.f k a0 a1 = some (r1, r2, r3, r4, r5, r6)) :
  Calls Tryz.prog 27 #[.string a0, .int .i64 a1] w fun e w' => e = .returned (.tuple #[.agg #[.int .i64 r1, .int .i64 r2, .int .i64 r3, .string r4], .int .i64 r5, .int .i64 r6]) ∧ Below w.heap.size w w' := by
 have hu40 := Tryz.underlying40
 have HG := aM hG
 clear hG
 have HB := aM (Below.refl w.heap.size w)
 have H : ((lex_Skip.f k a0 a1).bind fun t154 => (if t154 = (a0.size : Int) then (some (0, t154, 0, (⟨#[]⟩ : ByteArray), t154, 0)) else ((tok_source_sign.f a0 t154).bind fun bt155 => (if bt155.2.2.2.2.2 = true then (some (bt155.1, bt155.2.1, bt155.2.2.1, bt155.2.2.2.1, bt155.2.2.2.2.1, 0)) else (if 0 ≤ t154 then (if t154 < (a0.size : Int) then (if (bt a0 t154) = 41 then (tok_Next.j0 k a0 t154 a0 (bt a0 t154) ((bt a0 t154) == 41)) else (tok_Next.j0 k a0 t154 a0 (bt a0 t154) ((bt a0 t154) == 62))) else (none)) else (none)))))) = some (r1, r2, r3, r4, r5, r6) := h
 clear h
 replace H := bS H
 obtain ⟨t154, A3, H⟩ := H
 try dsimp only at H
 refine iEc H ?_ ?_<;>clear H<;>intro H c4b0 c4b1 c4
 ·clear c4
  simp only [Option.some.injEq, Prod.mk.injEq] at H
  obtain ⟨rfl, rfl, rfl, rfl, rfl, rfl⟩ := H
  go_enter Tryz.func27, Tryz.ntmps27
  go_wp2_with (first | ((with_reducible refine gD 4 ?_); refine bE 4 (cs := #[.int .i64 0, .int .i64 0, .int .i64 0, .string (⟨#[]⟩ : ByteArray)]) (t := 40) ?_; intro gb153 hg w5 hbox hb; have BK153 := aM hbox; have GW153 := sG w hg; have GE153 := sG w hg; replace HB := sB hb; clear hb hbox hg) | ((with_reducible refine gC 39 ?_); refine gL (some 16) Tryz.func39 #[.string a0, .int .i64 a1] ?_; (with_reducible refine cB (lex_Skip.calls k a0 a1 t154 _ A3.out) ?_); intro w6 hb; replace BK153 := kK BK153 hb; replace HB := sB hb; clear hb; obtain ⟨hcz7_0, hcz7_1, hcz7_2, hcz7_3, hfz7_0, hfz7_1, hfz7_2, hfz7_3⟩ := b4 BK153))
  refine bodyPost_ret (results_ctt rfl _ _ gb153 40 #[.int .i64 0, .int .i64 t154, .int .i64 0, .string (⟨#[]⟩ : ByteArray)] (0, 0) _ rfl kQ Tryz.underlying40 rfl (by kernel_rfl)) rfl ?_
  exact ⟨eQ, bQ⟩
 replace H := bS H
 obtain ⟨⟨t155, t156, t157, t158, t159, t160⟩, A8, H⟩ := H
 try dsimp only at H
 by_cases c9 : t160 = true
 ·subst c9
  rw [if_pos rfl] at H
  simp only [Option.some.injEq, Prod.mk.injEq] at H
  obtain ⟨rfl, rfl, rfl, rfl, rfl, rfl⟩ := H
  go_enter Tryz.func27, Tryz.ntmps27
  go_wp2_with (first | ((with_reducible refine gD 4 ?_); refine bE 4 (cs := #[.int .i64 0, .int .i64 0, .int .i64 0, .string (⟨#[]⟩ : ByteArray)]) (t := 40) ?_; intro gb153 hg w10 hbox hb; have BK153 := aM hbox; have GW153 := sG w hg; have GE153 := sG w hg; replace HB := sB hb; clear hb hbox hg) | ((with_reducible refine gC 39 ?_); refine gL (some 16) Tryz.func39 #[.string a0, .int .i64 a1] ?_; (with_reducible refine cB (lex_Skip.calls k a0 a1 t154 _ A3.out) ?_); intro w11 hb; replace BK153 := kK BK153 hb; replace HB := sB hb; clear hb) | ((with_reducible refine gC 40 ?_); refine gL (some 28) Tryz.func40 #[.string a0, .int .i64 t154] ?_; (with_reducible refine cB (tok_source_sign.calls a0 t154 t155 t156 t157 t158 t159 true _ A8.out) ?_); intro w12 hb; replace BK153 := kK BK153 hb; replace HB := sB hb; clear hb) | ((with_reducible refine gD 9 ?_); refine bE 9 (cs := #[.int .i64 0, .int .i64 0, .int .i64 0, .string (⟨#[]⟩ : ByteArray)]) (t := 40) ?_; intro gb161 hg w13 hbox hb; have BK161 := aM hbox; have GW161 := sG w hg; have GE161 := sG w hg; replace HB := sB hb; have NB153_161 := aM ((by rw [hg]; exact Nat.ne_of_lt (blk_lt (g := gb153) (o := .cells #[.int .i64 0, .int .i64 0, .int .i64 0, .string (⟨#[]⟩ : ByteArray)] 40 (0, 0)) kQ) : gb153 ≠ gb161)); have NB161_153 := aM ((by rw [hg]; exact Nat.ne_of_gt (blk_lt (g := gb153) (o := .cells #[.int .i64 0, .int .i64 0, .int .i64 0, .string (⟨#[]⟩ : ByteArray)] 40 (0, 0)) kQ) : gb161 ≠ gb153)); replace BK153 := kK BK153 hb; clear hb hbox hg; have hnb14 := NB161_153.out; have hnc14 := NB153_161.out; obtain ⟨hcz15_0, hcz15_1, hcz15_2, hcz15_3, hfz15_0, hfz15_1, hfz15_2, hfz15_3⟩ := b4 BK161; obtain ⟨hcz16_0, hcz16_1, hcz16_2, hcz16_3, hfz16_0, hfz16_1, hfz16_2, hfz16_3⟩ := b4 BK153))
  refine bodyPost_ret (results_ctt rfl _ _ gb153 40 #[.int .i64 t155, .int .i64 t156, .int .i64 t157, .string t158] (0, 0) _ rfl kQ Tryz.underlying40 rfl (by kernel_rfl)) rfl ?_
  exact ⟨eQ, bQ⟩
 replace c9 := Bool.eq_false_iff.mpr c9
 subst c9
 rw [if_neg (show ¬ (false = true) by decide)] at H
 refine iD H ?_ ?_<;>clear H<;>intro H c17b0
 rotate_left
 ·exact absurd H (by simp)
 refine iD H ?_ ?_<;>clear H<;>intro H c18b0
 rotate_left
 ·exact absurd H (by simp)
 have HC20 := aM H
 clear H
 go_enter Tryz.func27, Tryz.ntmps27
 go_upto_if 38 with (first | ((with_reducible refine gD 4 ?_); refine bE 4 (cs := #[.int .i64 0, .int .i64 0, .int .i64 0, .string (⟨#[]⟩ : ByteArray)]) (t := 40) ?_; intro gb153 hg w21 hbox hb; have BK153 := aM hbox; have GW153 := sG w hg; have GE153 := sG w hg; replace HB := sB hb; clear hb hbox hg) | ((with_reducible refine gC 39 ?_); refine gL (some 16) Tryz.func39 #[.string a0, .int .i64 a1] ?_; (with_reducible refine cB (lex_Skip.calls k a0 a1 t154 _ A3.out) ?_); intro w22 hb; replace BK153 := kK BK153 hb; replace HB := sB hb; clear hb) | ((with_reducible refine gC 40 ?_); refine gL (some 28) Tryz.func40 #[.string a0, .int .i64 t154] ?_; (with_reducible refine cB (tok_source_sign.calls a0 t154 t155 t156 t157 t158 t159 false _ A8.out) ?_); intro w23 hb; replace BK153 := kK BK153 hb; replace HB := sB hb; clear hb) | ((with_reducible refine gD 9 ?_); refine bE 9 (cs := #[.int .i64 0, .int .i64 0, .int .i64 0, .string (⟨#[]⟩ : ByteArray)]) (t := 40) ?_; intro gb161 hg w24 hbox hb; have BK161 := aM hbox; have GW161 := sG w hg; have GE161 := sG w hg; replace HB := sB hb; have NB153_161 := aM ((by rw [hg]; exact Nat.ne_of_lt (blk_lt (g := gb153) (o := .cells #[.int .i64 0, .int .i64 0, .int .i64 0, .string (⟨#[]⟩ : ByteArray)] 40 (0, 0)) kQ) : gb153 ≠ gb161)); have NB161_153 := aM ((by rw [hg]; exact Nat.ne_of_gt (blk_lt (g := gb153) (o := .cells #[.int .i64 0, .int .i64 0, .int .i64 0, .string (⟨#[]⟩ : ByteArray)] 40 (0, 0)) kQ) : gb161 ≠ gb153)); replace BK153 := kK BK153 hb; clear hb hbox hg; have hnb25 := NB161_153.out; have hnc25 := NB153_161.out; obtain ⟨hcz26_0, hcz26_1, hcz26_2, hcz26_3, hfz26_0, hfz26_1, hfz26_2, hfz26_3⟩ := b4 BK161; have p19 : 0 ≤ (t154 : Int) := of_decide_eq_true hQ; have q19 : t154 < (a0.size : Int) := of_decide_eq_true hQ; have hx19 := bt_at a0 t154; replace p19 := eq_true p19; replace q19 := eq_true q19))
 (try simp only [Act.put, List.setIfInBounds_toArray, List.set_cons_zero, List.set_cons_succ])
 go_cut [38] (fun v38 wc => ∃ (kq : Nat) (x38_19 : Bool), v38 = .bool x38_19 ∧ Aside0 (tok_Next.j0 kq a0 t154 a0 (bt a0 t154) x38_19 = some (r1, r2, r3, r4, r5, r6)) ∧ Aside0 (kq ≤ k) ∧ Aside0 (wc.heap[gb153]? = some (.cells #[.int .i64 0, .int .i64 0, .int .i64 0, .string (⟨#[]⟩ : ByteArray)] 40 (0, 0))) ∧ Aside0 (wc.heap[gb161]? = some (.cells #[.int .i64 t155, .int .i64 t156, .int .i64 t157, .string t158] 40 (0, 0))) ∧ Aside0 (Below w.heap.size w wc))
 case first =>
  have H := HC20.out
  clear HC20
  refine iEc H ?_ ?_<;>clear H<;>intro H c27b0 c27b1 c27
  rotate_left
  ·(first | rw [c27b0] | (simp only [i64_w, i32_w]; rw [c27b0]) | skip)
   have H' := aM H
   clear H
   go_wp2
   go_meet
   case rel => exact ⟨_, (((bt a0 t154) == 62)), vQ, H', ⟨by first | omega | exact Nat.le_refl _⟩, ⟨kQ⟩, ⟨kQ⟩, ⟨bQ⟩⟩
  clear c27
  (first | rw [c27b0] | (simp only [i64_w, i32_w]; rw [c27b0]) | skip)
  have H' := aM H
  clear H
  go_wp2
  go_meet
  case rel => exact ⟨_, (((bt a0 t154) == 41)), vQ, H', ⟨by first | omega | exact Nat.le_refl _⟩, ⟨kQ⟩, ⟨kQ⟩, ⟨bQ⟩⟩
 case rest =>
  clear HC20
  try clear c1
  try clear p1
  try clear q1
  try clear hx1
  try clear c2
  try clear p2
  try clear c3
  try clear c4
  try clear c4b0
  try clear c4b1
  try clear c9
  try clear c14
  try clear c17
  try clear c17b0
  try clear c18
  try clear c18b0
  try clear p19
  try clear q19
  try clear hx19
  try clear c25
  try clear c27
  try clear c27b0
  try clear c27b1
  try clear hcz15_0
  try clear hcz15_1
  try clear hcz15_2
  try clear hcz15_3
  try clear hcz16_0
  try clear hcz16_1
  try clear hcz16_2
  try clear hcz16_3
  try clear hcz26_0
  try clear hcz26_1
  try clear hcz26_2
  try clear hcz26_3
  try clear hcz7_0
  try clear hcz7_1
  try clear hcz7_2
  try clear hcz7_3
  try clear hfz15_0
  try clear hfz15_1
  try clear hfz15_2
  try clear hfz15_3
  try clear hfz16_0
  try clear hfz16_1
  try clear hfz16_2
  try clear hfz16_3
  try clear hfz26_0
  try clear hfz26_1
  try clear hfz26_2
  try clear hfz26_3
  try clear hfz7_0
  try clear hfz7_1
  try clear hfz7_2
  try clear hfz7_3
  try clear p19
  try clear q19
  obtain ⟨kq, x38_19, rfl, HA, HJ19, BK153, BK161, HB⟩ := hcut
  cases kq with
  | zero => exact absurd HA.out (by simp [tok_Next.j0])
  | succ kj19 =>
   have H := HA.out
   clear HA
   simp only [tok_Next.j0] at H
   by_cases c28 : x38_19 = true
   ·subst c28
    rw [if_pos rfl] at H
    simp only [Option.some.injEq, Prod.mk.injEq] at H
    obtain ⟨rfl, rfl, rfl, rfl, rfl, rfl⟩ := H
    have hnb29 := NB153_161.out
    have hnc29 := NB161_153.out
    have hcz30_0 : wc.cell? ⟨gb153, 0, none⟩ = some (.int .i64 0) := (blk_cell BK153.out 0).trans rfl
    have hcz30_1 : wc.cell? ⟨gb153, 1, none⟩ = some (.int .i64 0) := (blk_cell BK153.out 1).trans rfl
    have hcz30_2 : wc.cell? ⟨gb153, 2, none⟩ = some (.int .i64 0) := (blk_cell BK153.out 2).trans rfl
    have hcz30_3 : wc.cell? ⟨gb153, 3, none⟩ = some (.string (⟨#[]⟩ : ByteArray)) := (blk_cell BK153.out 3).trans rfl
    have hfz30_0 := blk_frozen BK153.out 0
    have hfz30_1 := blk_frozen BK153.out 1
    have hfz30_2 := blk_frozen BK153.out 2
    have hfz30_3 := blk_frozen BK153.out 3
    go_wp2
    refine bodyPost_ret (results_ctt rfl _ _ gb153 40 #[.int .i64 0, .int .i64 0, .int .i64 0, .string (⟨#[]⟩ : ByteArray)] (0, 0) _ rfl kQ Tryz.underlying40 rfl (by kernel_rfl)) rfl ?_
    exact ⟨eQ, bQ⟩
   replace c28 := Bool.eq_false_iff.mpr c28
   subst c28
   rw [if_neg (show ¬ (false = true) by decide)] at H
   refine iEc H ?_ ?_<;>clear H<;>intro H c31b0 c31b1 c31
   ·clear c31
    replace H := bS H
    obtain ⟨⟨t162, t163⟩, A32, H⟩ := H
    try dsimp only at H
    replace H := bS H
    obtain ⟨t164, A33, H⟩ := H
    try dsimp only at H
    simp only [Option.some.injEq, Prod.mk.injEq] at H
    obtain ⟨rfl, rfl, rfl, rfl, rfl, rfl⟩ := H
    go_wp2_with (first | ((with_reducible refine gC 41 ?_); refine gL (some 49) Tryz.func41 #[.string a0, .int .i64 (wrap64 (t154 + 1))] ?_; (with_reducible refine cB (lex_Word.calls kj19 a0 (wrap64 (t154 + 1)) t162 t163 _ A32.out) ?_); intro w34 hb; replace BK153 := kK BK153 hb; replace BK161 := kK BK161 hb; replace HB := sB hb; clear hb) | ((with_reducible refine gC 42 ?_); refine gL (some 54) Tryz.func42 #[.string t162] ?_; (with_reducible refine cB (lex_Name.calls t162 t164 _ A33.out) ?_); intro w35 hb; replace BK153 := kK BK153 hb; replace BK161 := kK BK161 hb; replace HB := sB hb; clear hb; have hnb36 := NB153_161.out; have hnc36 := NB161_153.out; obtain ⟨hcz37_0, hcz37_1, hcz37_2, hcz37_3, hfz37_0, hfz37_1, hfz37_2, hfz37_3⟩ := b4 BK153))
    refine bodyPost_ret (results_ctt rfl _ _ gb153 40 #[.int .i64 2, .int .i64 t154, .int .i64 0, .string t164] (0, 0) _ rfl kQ Tryz.underlying40 rfl (by kernel_rfl)) rfl ?_
    exact ⟨eQ, bQ⟩
   refine iEc H ?_ ?_<;>clear H<;>intro H c38b0 c38b1 c38
   ·clear c38
    replace H := bS H
    obtain ⟨⟨t165, t166, t167, t168, t169, t170⟩, A39, H⟩ := H
    try dsimp only at H
    simp only [Option.some.injEq, Prod.mk.injEq] at H
    obtain ⟨rfl, rfl, rfl, rfl, rfl, rfl⟩ := H
    go_wp2_with (first | ((with_reducible refine gC 43 ?_); refine gL (some 61) Tryz.func43 #[.string a0, .int .i64 t154] ?_; (with_reducible refine cB (tok_source_hexed.calls kj19 a0 t154 t165 t166 t167 t168 t169 t170 _ ?side1 A39.out) ?_); (case side1 => exact gQ HG.out); intro w40 hb; replace BK153 := kK BK153 hb; replace BK161 := kK BK161 hb; replace HB := sB hb; clear hb; have hnb41 := NB153_161.out; have hnc41 := NB161_153.out; obtain ⟨hcz42_0, hcz42_1, hcz42_2, hcz42_3, hfz42_0, hfz42_1, hfz42_2, hfz42_3⟩ := b4 BK153))
    refine bodyPost_ret (results_ctt rfl _ _ gb153 40 #[.int .i64 t165, .int .i64 t166, .int .i64 t167, .string t168] (0, 0) _ rfl kQ Tryz.underlying40 rfl (by kernel_rfl)) rfl ?_
    exact ⟨eQ, bQ⟩
   refine iEc H ?_ ?_<;>clear H<;>intro H c43b0 c43b1 c43
   rotate_left
   ·replace H := bS H
    obtain ⟨⟨t177, t178, t179, t180, t181, t182⟩, A48, H⟩ := H
    try dsimp only at H
    simp only [Option.some.injEq, Prod.mk.injEq] at H
    obtain ⟨rfl, rfl, rfl, rfl, rfl, rfl⟩ := H
    go_wp2_with (first | ((with_reducible refine gC 45 ?_); refine gL (some 75) Tryz.func45 #[.string a0, .int .i64 t154] ?_; (with_reducible refine cB (tok_source_worded.calls kj19 a0 t154 t177 t178 t179 t180 t181 t182 _ ?side1 A48.out) ?_); (case side1 => exact gQ HG.out); intro w49 hb; replace BK153 := kK BK153 hb; replace BK161 := kK BK161 hb; replace HB := sB hb; clear hb; have hnb50 := NB153_161.out; have hnc50 := NB161_153.out; obtain ⟨hcz51_0, hcz51_1, hcz51_2, hcz51_3, hfz51_0, hfz51_1, hfz51_2, hfz51_3⟩ := b4 BK153))
    refine bodyPost_ret (results_ctt rfl _ _ gb153 40 #[.int .i64 t177, .int .i64 t178, .int .i64 t179, .string t180] (0, 0) _ rfl kQ Tryz.underlying40 rfl (by kernel_rfl)) rfl ?_
    exact ⟨eQ, bQ⟩
   clear c43
   replace H := bS H
   obtain ⟨⟨t171, t172, t173, t174, t175, t176⟩, A44, H⟩ := H
   try dsimp only at H
   simp only [Option.some.injEq, Prod.mk.injEq] at H
   obtain ⟨rfl, rfl, rfl, rfl, rfl, rfl⟩ := H
   go_wp2_with (first | ((with_reducible refine gC 44 ?_); refine gL (some 69) Tryz.func44 #[.string a0, .int .i64 t154] ?_; (with_reducible refine cB (tok_source_strung.calls kj19 a0 t154 t171 t172 t173 t174 t175 t176 _ A44.out) ?_); intro w45 hb; replace BK153 := kK BK153 hb; replace BK161 := kK BK161 hb; replace HB := sB hb; clear hb; have hnb46 := NB153_161.out; have hnc46 := NB161_153.out; obtain ⟨hcz47_0, hcz47_1, hcz47_2, hcz47_3, hfz47_0, hfz47_1, hfz47_2, hfz47_3⟩ := b4 BK153))
   refine bodyPost_ret (results_ctt rfl _ _ gb153 40 #[.int .i64 t171, .int .i64 t172, .int .i64 t173, .string t174] (0, 0) _ rfl kQ Tryz.underlying40 rfl (by kernel_rfl)) rfl ?_
   exact ⟨eQ, bQ⟩
def tok_All.l0 : Nat → ByteArray → List (S40) → Int → Option ((List (S40)) × Int × Int)
 | 0, _, _, _ => none
 | k + 1, x0, x5, x6 => (tok_Next.f k x0 x6).bind fun bt183 => (if bt183.2.2.2.2.2 = 0 then (if bt183.1 = 0 then (some (x5, (x0.size : Int), 0)) else (if (x5.length : Int) = 65536 then (some (([] : List (S40)), bt183.2.1, 10)) else (if x5.length < 3518437208883 then (tok_All.l0 k x0 (x5 ++ [(⟨bt183.1, bt183.2.1, bt183.2.2.1, bt183.2.2.2.1⟩ : S40)]) bt183.2.2.2.2.1) else (none)))) else (some (([] : List (S40)), bt183.2.2.2.2.1, bt183.2.2.2.2.2)))
def tok_All.f (k : Nat) (a0 : ByteArray) : Option ((List (S40)) × Int × Int) := tok_All.l0 k a0 ([] : List (S40)) 0
theorem tok_All.mono_l : ∀ k, (∀ y0 y1 y2, LeO (tok_All.l0 k y0 y1 y2) (tok_All.l0 (k + 1) y0 y1 y2))
 | 0 => fun _ _ _ r h => by simp [tok_All.l0] at h
 | k + 1 => by
  have ih0 := tok_All.mono_l k
  ·intro y0 y1 y2
   unfold tok_All.l0
   repeat' first
   | (with_reducible exact ih0 _ _ _)
   | (with_reducible exact tok_Next.mono _ _ _)
   | (with_reducible exact LeO.refl _)
   | (with_reducible exact LeO.none _)
   | (with_reducible refine LeO.ite ?_ ?_)
   | (with_reducible refine LeO.bind ?_ (fun _ => ?_))
   | exact ih0 _ _ _
   | exact tok_Next.mono _ _ _
   | exact LeO.none _
   | refine LeO.ite ?_ ?_
   | refine LeO.bind ?_ (fun _ => ?_)
theorem tok_All.mono : ∀ a0 k, LeO (tok_All.f k a0) (tok_All.f (k + 1) a0) := by
 intro a0 k
 have ih0 := tok_All.mono_l k
 unfold tok_All.f
 repeat' first
   | (with_reducible exact ih0 _ _ _)
   | (with_reducible exact tok_Next.mono _ _ _)
   | (with_reducible exact LeO.refl _)
   | (with_reducible exact LeO.none _)
   | (with_reducible refine LeO.ite ?_ ?_)
   | (with_reducible refine LeO.bind ?_ (fun _ => ?_))
   | exact ih0 _ _ _
   | exact tok_Next.mono _ _ _
   | exact LeO.none _
   | refine LeO.ite ?_ ?_
   | refine LeO.bind ?_ (fun _ => ?_)
set_option maxHeartbeats 8000000 in
set_option maxRecDepth 100000 in
theorem tok_All.calls (k : Nat) (a0 : ByteArray) (r1 : List (S40)) (r2 : Int) (r3 : Int) (w : World) (hG : GW w) (h : tok_All.f k a0 = some (r1, r2, r3)) :
  Calls Tryz.prog 16 #[.string a0] w fun e w' => ∃ v0_ : Value, e = .returned (.tuple #[v0_, .int .i64 r2, .int .i64 r3]) ∧ Kd.R k40 40 w' w.heap.size (fun _ => True) v0_ r1 ∧ Below w.heap.size w w' := by
 have hu40 := Tryz.underlying40
 have HG := aM hG
 clear hG
 have HB := aM (Below.refl w.heap.size w)
 have H : (tok_All.l0 k a0 ([] : List (S40)) 0) = some (r1, r2, r3) := h
 clear h
 have H' := aM H
 clear H
 go_enter Tryz.func16, Tryz.ntmps16
 go_wp2
 repeat (go_quiet (fail); try go_wp2)
 go_loopg [5, 6] k (fun kq v5 v6 w' => ∃ (x5_1 : List (S40)) (x6_1 : Int), v6 = .int .i64 x6_1 ∧ Aside0 (tok_All.l0 kq a0 x5_1 x6_1 = some (r1, r2, r3)) ∧ Aside0 (kq ≤ k) ∧ Aside0 (Kd.R k40 40 w' w.heap.size (fun _ => True) v5 x5_1) ∧ Aside0 (Below w.heap.size w w'))
 case atStart => exact ⟨(([] : List (S40))), (0), vQ, H', ⟨Nat.le_refl _⟩, ⟨by first | exact Kd.R_nil _ _ _ _ _ | exact Kd.N_nil _ _ _ _ _ | exact Kd.V_nil _ _ _ _ _ | exact Kd.Q_nil _ _ _ _ _ | exact Kd.S_nil _ _ _ _ _⟩, ⟨bQ⟩⟩
 case round =>
  clear H'
  try clear c1
  obtain ⟨x5_1, x6_1, rfl, HA, HK1, HO_5, HB⟩ := hrel
  cases gk with
  | zero => exact absurd HA.out (by simp [tok_All.l0])
  | succ k1 =>
   have H := HA.out
   clear HA
   simp only [tok_All.l0] at H
   replace H := bS H
   obtain ⟨⟨t183, t184, t185, t186, t187, t188⟩, A2, H⟩ := H
   try dsimp only at H
   refine iEc H ?_ ?_<;>clear H<;>intro H c3b0 c3b1 c3
   rotate_left
   ·simp only [Option.some.injEq, Prod.mk.injEq] at H
    obtain ⟨rfl, rfl, rfl⟩ := H
    go_wp2_with (first | (go_at_call 27; (with_reducible refine (tok_Next.calls k1 a0 x6_1 t183 t184 t185 t186 t187 t188 _ ?side1 A2.out).mono ?_); (case side1 => exact gQ HG.out); rintro e w19 ⟨rfl, hb⟩; replace HO_5 := rK HO_5 hb; replace HB := sB hb; clear hb) | ((with_reducible refine gD 7 ?_); refine bE 7 (cs := #[.int .i64 0, .int .i64 0, .int .i64 0, .string (⟨#[]⟩ : ByteArray)]) (t := 40) ?_; intro gb189 hg w20 hbox hb; replace HO_5 := aM (Kd.R_below (Kd.R_elderB (mQ HO_5) gb189 (Nat.le_of_eq hg.symm)) hb); have BK189 := aM hbox; have GW189 := sG w hg; have GE189 := sG w hg; replace HB := sB hb; clear hb hbox hg; obtain ⟨hcz21_0, hcz21_1, hcz21_2, hcz21_3, hfz21_0, hfz21_1, hfz21_2, hfz21_3⟩ := b4 BK189))
    repeat (go_quiet (first | (go_at_call 27; (with_reducible refine (tok_Next.calls k1 a0 x6_1 t183 t184 t185 t186 t187 t188 _ ?side1 A2.out).mono ?_); (case side1 => exact gQ HG.out); rintro e w19 ⟨rfl, hb⟩; replace HO_5 := rK HO_5 hb; replace HB := sB hb; clear hb) | ((with_reducible refine gD 7 ?_); refine bE 7 (cs := #[.int .i64 0, .int .i64 0, .int .i64 0, .string (⟨#[]⟩ : ByteArray)]) (t := 40) ?_; intro gb189 hg w20 hbox hb; replace HO_5 := aM (Kd.R_below (Kd.R_elderB (mQ HO_5) gb189 (Nat.le_of_eq hg.symm)) hb); have BK189 := aM hbox; have GW189 := sG w hg; have GE189 := sG w hg; replace HB := sB hb; clear hb hbox hg; obtain ⟨hcz21_0, hcz21_1, hcz21_2, hcz21_3, hfz21_0, hfz21_1, hfz21_2, hfz21_3⟩ := b4 BK189)); try go_wp2_with (first | (go_at_call 27; (with_reducible refine (tok_Next.calls k1 a0 x6_1 t183 t184 t185 t186 t187 t188 _ ?side1 A2.out).mono ?_); (case side1 => exact gQ HG.out); rintro e w19 ⟨rfl, hb⟩; replace HO_5 := rK HO_5 hb; replace HB := sB hb; clear hb) | ((with_reducible refine gD 7 ?_); refine bE 7 (cs := #[.int .i64 0, .int .i64 0, .int .i64 0, .string (⟨#[]⟩ : ByteArray)]) (t := 40) ?_; intro gb189 hg w20 hbox hb; replace HO_5 := aM (Kd.R_below (Kd.R_elderB (mQ HO_5) gb189 (Nat.le_of_eq hg.symm)) hb); have BK189 := aM hbox; have GW189 := sG w hg; have GE189 := sG w hg; replace HB := sB hb; clear hb hbox hg; obtain ⟨hcz21_0, hcz21_1, hcz21_2, hcz21_3, hfz21_0, hfz21_1, hfz21_2, hfz21_3⟩ := b4 BK189)))
    go_ret3
    exact ⟨_, eQ, by first | exact Kd.R_nil _ _ _ _ _ | exact Kd.N_nil _ _ _ _ _ | exact Kd.V_nil _ _ _ _ _ | exact Kd.Q_nil _ _ _ _ _ | exact Kd.S_nil _ _ _ _ _, bQ⟩
   clear c3
   refine iEc H ?_ ?_<;>clear H<;>intro H c4b0 c4b1 c4
   ·clear c4
    simp only [Option.some.injEq, Prod.mk.injEq] at H
    obtain ⟨rfl, rfl, rfl⟩ := H
    go_wp2_with (first | (go_at_call 27; (with_reducible refine (tok_Next.calls k1 a0 x6_1 t183 t184 t185 t186 t187 t188 _ ?side1 A2.out).mono ?_); (case side1 => exact gQ HG.out); rintro e w5 ⟨rfl, hb⟩; replace HO_5 := rK HO_5 hb; replace HB := sB hb; clear hb) | ((with_reducible refine gD 7 ?_); refine bE 7 (cs := #[.int .i64 0, .int .i64 0, .int .i64 0, .string (⟨#[]⟩ : ByteArray)]) (t := 40) ?_; intro gb189 hg w6 hbox hb; replace HO_5 := aM (Kd.R_below (Kd.R_elderB (mQ HO_5) gb189 (Nat.le_of_eq hg.symm)) hb); have BK189 := aM hbox; have GW189 := sG w hg; have GE189 := sG w hg; replace HB := sB hb; clear hb hbox hg; obtain ⟨hcz7_0, hcz7_1, hcz7_2, hcz7_3, hfz7_0, hfz7_1, hfz7_2, hfz7_3⟩ := b4 BK189))
    repeat (go_quiet (first | (go_at_call 27; (with_reducible refine (tok_Next.calls k1 a0 x6_1 t183 t184 t185 t186 t187 t188 _ ?side1 A2.out).mono ?_); (case side1 => exact gQ HG.out); rintro e w5 ⟨rfl, hb⟩; replace HO_5 := rK HO_5 hb; replace HB := sB hb; clear hb) | ((with_reducible refine gD 7 ?_); refine bE 7 (cs := #[.int .i64 0, .int .i64 0, .int .i64 0, .string (⟨#[]⟩ : ByteArray)]) (t := 40) ?_; intro gb189 hg w6 hbox hb; replace HO_5 := aM (Kd.R_below (Kd.R_elderB (mQ HO_5) gb189 (Nat.le_of_eq hg.symm)) hb); have BK189 := aM hbox; have GW189 := sG w hg; have GE189 := sG w hg; replace HB := sB hb; clear hb hbox hg; obtain ⟨hcz7_0, hcz7_1, hcz7_2, hcz7_3, hfz7_0, hfz7_1, hfz7_2, hfz7_3⟩ := b4 BK189)); try go_wp2_with (first | (go_at_call 27; (with_reducible refine (tok_Next.calls k1 a0 x6_1 t183 t184 t185 t186 t187 t188 _ ?side1 A2.out).mono ?_); (case side1 => exact gQ HG.out); rintro e w5 ⟨rfl, hb⟩; replace HO_5 := rK HO_5 hb; replace HB := sB hb; clear hb) | ((with_reducible refine gD 7 ?_); refine bE 7 (cs := #[.int .i64 0, .int .i64 0, .int .i64 0, .string (⟨#[]⟩ : ByteArray)]) (t := 40) ?_; intro gb189 hg w6 hbox hb; replace HO_5 := aM (Kd.R_below (Kd.R_elderB (mQ HO_5) gb189 (Nat.le_of_eq hg.symm)) hb); have BK189 := aM hbox; have GW189 := sG w hg; have GE189 := sG w hg; replace HB := sB hb; clear hb hbox hg; obtain ⟨hcz7_0, hcz7_1, hcz7_2, hcz7_3, hfz7_0, hfz7_1, hfz7_2, hfz7_3⟩ := b4 BK189)))
    go_ret3
    exact ⟨_, eQ, by (with_reducible repeat first|apply rA|apply rD|apply r1); exact Kd.R_mono (Kd.R_far (p := ⟨gb189, 3, none⟩) (Kd.R_far (p := ⟨gb189, 2, none⟩) (Kd.R_far (p := ⟨gb189, 1, none⟩) (Kd.R_far (p := ⟨gb189, 0, none⟩) (Kd.R_mono HO_5.out (fun k_ hk => (⟨hk, hk.2⟩ : _ ∧ k_ ≠ gb189))) (fun _ hk => hk.2) (.int .i64 t183)) (fun _ hk => hk.2) (.int .i64 t184)) (fun _ hk => hk.2) (.int .i64 t185)) (fun _ hk => hk.2) (.string t186)) (fun _ hk => trivial), bQ⟩
   refine iEc H ?_ ?_<;>clear H<;>intro H c8b0 c8b1 c8
   ·clear c8
    simp only [Option.some.injEq, Prod.mk.injEq] at H
    obtain ⟨rfl, rfl, rfl⟩ := H
    go_wp2_with (first | (go_at_call 27; (with_reducible refine (tok_Next.calls k1 a0 x6_1 t183 t184 t185 t186 t187 t188 _ ?side1 A2.out).mono ?_); (case side1 => exact gQ HG.out); rintro e w9 ⟨rfl, hb⟩; replace HO_5 := rK HO_5 hb; replace HB := sB hb; clear hb) | ((with_reducible refine gD 7 ?_); refine bE 7 (cs := #[.int .i64 0, .int .i64 0, .int .i64 0, .string (⟨#[]⟩ : ByteArray)]) (t := 40) ?_; intro gb189 hg w10 hbox hb; replace HO_5 := aM (Kd.R_below (Kd.R_elderB (mQ HO_5) gb189 (Nat.le_of_eq hg.symm)) hb); have BK189 := aM hbox; have GW189 := sG w hg; have GE189 := sG w hg; replace HB := sB hb; clear hb hbox hg; obtain ⟨hcz11_0, hcz11_1, hcz11_2, hcz11_3, hfz11_0, hfz11_1, hfz11_2, hfz11_3⟩ := b4 BK189; obtain ⟨Ao12, co12, eo12⟩ := Kd.R_slice HO_5.out; subst eo12))
    repeat (go_quiet (first | (go_at_call 27; (with_reducible refine (tok_Next.calls k1 a0 x6_1 t183 t184 t185 t186 t187 t188 _ ?side1 A2.out).mono ?_); (case side1 => exact gQ HG.out); rintro e w9 ⟨rfl, hb⟩; replace HO_5 := rK HO_5 hb; replace HB := sB hb; clear hb) | ((with_reducible refine gD 7 ?_); refine bE 7 (cs := #[.int .i64 0, .int .i64 0, .int .i64 0, .string (⟨#[]⟩ : ByteArray)]) (t := 40) ?_; intro gb189 hg w10 hbox hb; replace HO_5 := aM (Kd.R_below (Kd.R_elderB (mQ HO_5) gb189 (Nat.le_of_eq hg.symm)) hb); have BK189 := aM hbox; have GW189 := sG w hg; have GE189 := sG w hg; replace HB := sB hb; clear hb hbox hg; obtain ⟨hcz11_0, hcz11_1, hcz11_2, hcz11_3, hfz11_0, hfz11_1, hfz11_2, hfz11_3⟩ := b4 BK189; obtain ⟨Ao12, co12, eo12⟩ := Kd.R_slice HO_5.out; subst eo12)); try go_wp2_with (first | (go_at_call 27; (with_reducible refine (tok_Next.calls k1 a0 x6_1 t183 t184 t185 t186 t187 t188 _ ?side1 A2.out).mono ?_); (case side1 => exact gQ HG.out); rintro e w9 ⟨rfl, hb⟩; replace HO_5 := rK HO_5 hb; replace HB := sB hb; clear hb) | ((with_reducible refine gD 7 ?_); refine bE 7 (cs := #[.int .i64 0, .int .i64 0, .int .i64 0, .string (⟨#[]⟩ : ByteArray)]) (t := 40) ?_; intro gb189 hg w10 hbox hb; replace HO_5 := aM (Kd.R_below (Kd.R_elderB (mQ HO_5) gb189 (Nat.le_of_eq hg.symm)) hb); have BK189 := aM hbox; have GW189 := sG w hg; have GE189 := sG w hg; replace HB := sB hb; clear hb hbox hg; obtain ⟨hcz11_0, hcz11_1, hcz11_2, hcz11_3, hfz11_0, hfz11_1, hfz11_2, hfz11_3⟩ := b4 BK189; obtain ⟨Ao12, co12, eo12⟩ := Kd.R_slice HO_5.out; subst eo12)))
    go_ret3
    exact ⟨_, eQ, by first | exact Kd.R_nil _ _ _ _ _ | exact Kd.N_nil _ _ _ _ _ | exact Kd.V_nil _ _ _ _ _ | exact Kd.Q_nil _ _ _ _ _ | exact Kd.S_nil _ _ _ _ _, bQ⟩
   refine iNc H ?_ ?_<;>clear H<;>intro H c13
   rotate_left
   ·exact absurd H (by simp)
   have LMc13 := aM c13
   clear c13
   obtain ⟨y190, hy190⟩ : ∃ y_ : List (S40), y_ = (x5_1 ++ [(⟨t183, t184, t185, t186⟩ : S40)]) := ⟨_, rfl⟩
   replace H : (tok_All.l0 k1 a0 y190 t187) = some (r1, r2, r3) := by first | (rw [hy190]; with_reducible exact H) | (have H2_ := (Option.bind_some _ _).symm.trans H; rw [hy190]; with_reducible exact H2_) | (have H2_ := (Option.bind_some _ _).symm.trans H; with_reducible exact H2_) | with_reducible exact H | (rw [hy190]; exact H) | exact H
   have Ny190 := aM hy190
   clear hy190
   have H' := aM H
   clear H
   go_wp2_with (first | (go_at_call 27; (with_reducible refine (tok_Next.calls k1 a0 x6_1 t183 t184 t185 t186 t187 t188 _ ?side1 A2.out).mono ?_); (case side1 => exact gQ HG.out); rintro e w14 ⟨rfl, hb⟩; replace HO_5 := rK HO_5 hb; replace HB := sB hb; clear hb) | ((with_reducible refine gD 7 ?_); refine bE 7 (cs := #[.int .i64 0, .int .i64 0, .int .i64 0, .string (⟨#[]⟩ : ByteArray)]) (t := 40) ?_; intro gb189 hg w15 hbox hb; replace HO_5 := aM (Kd.R_below (Kd.R_elderB (mQ HO_5) gb189 (Nat.le_of_eq hg.symm)) hb); have BK189 := aM hbox; have GW189 := sG w hg; have GE189 := sG w hg; replace HB := sB hb; clear hb hbox hg; obtain ⟨hcz16_0, hcz16_1, hcz16_2, hcz16_3, hfz16_0, hfz16_1, hfz16_2, hfz16_3⟩ := b4 BK189; obtain ⟨Ao17, co17, eo17⟩ := Kd.R_slice HO_5.out; subst eo17) | ((with_reducible refine gate_builtin (b := .append) (xs := #[.tmp 35, .tmp 37]) rfl ?_); at_builtin; refine Kd.R_append k40 (w0 := w) w.heap.size rfl (.tmp 35) (.tmp 37) 22 40 (.agg #[(.int .i64 0), (.int .i64 0), (.int .i64 0), (.string ⟨#[]⟩)]) 40 rfl Tryz.underlying22 info40 rfl (by decide) (by omega) (.slice Ao17 x5_1.length co17) x5_1 (⟨t183, t184, t185, t186⟩ : S40) [.int .i64 t183, .int .i64 t184, .int .i64 t185, .string t186] (fun k_ => k_ ≠ gb189) (fun _ => False) rfl (by first | (go_simp; done) | (go_simp; rfl)) ?aP (fun _ hk => hk.elim) ?aF ?aO ?aB ?aS ?aL ?_; (case aP => exact k40_mkM _ _ _ (⟨t183, t184, t185, t186⟩ : S40)); (case aB => exact bQ); (case aF => exact (fun k_ hk => Kd.freshB (g := gb189) (o := .cells #[.int .i64 t183, .int .i64 t184, .int .i64 t185, .string t186] 40 (0, 0)) kQ k_ hk)); (case aO => exact (by (with_reducible repeat first|apply rA|apply rD|apply r1); exact Kd.R_mono (Kd.R_far (p := ⟨gb189, 3, none⟩) (Kd.R_far (p := ⟨gb189, 2, none⟩) (Kd.R_far (p := ⟨gb189, 1, none⟩) (Kd.R_far (p := ⟨gb189, 0, none⟩) (Kd.R_mono HO_5.out (fun k_ hk => (⟨hk, hk.2⟩ : _ ∧ k_ ≠ gb189))) (fun _ hk => hk.2) (.int .i64 t183)) (fun _ hk => hk.2) (.int .i64 t184)) (fun _ hk => hk.2) (.int .i64 t185)) (fun _ hk => hk.2) (.string t186)) (fun _ hk => hk.1.2))); (case aS => exact (below_size bQ)); (case aL => have := LMc13.out; omega); intro v191 w18 ho hb hg hat; rw [← Ny190.out] at ho; have n0_ := aM (blk_grown (g := gb189) (o := .cells #[.int .i64 t183, .int .i64 t184, .int .i64 t185, .string t186] 40 (0, 0)) kQ hg (Kd.R_away HO_5.out (fun _ hk => hk.2))); have n1_ := aM hb; have n2_ := aM ho; clear BK189; clear HB; clear HO_5; have BK189 := n0_; have HB := n1_; have HO192 := n2_; clear n0_ n1_ n2_; clear ho hb hg hat))
   repeat (go_quiet (first | (go_at_call 27; (with_reducible refine (tok_Next.calls k1 a0 x6_1 t183 t184 t185 t186 t187 t188 _ ?side1 A2.out).mono ?_); (case side1 => exact gQ HG.out); rintro e w14 ⟨rfl, hb⟩; replace HO_5 := rK HO_5 hb; replace HB := sB hb; clear hb) | ((with_reducible refine gD 7 ?_); refine bE 7 (cs := #[.int .i64 0, .int .i64 0, .int .i64 0, .string (⟨#[]⟩ : ByteArray)]) (t := 40) ?_; intro gb189 hg w15 hbox hb; replace HO_5 := aM (Kd.R_below (Kd.R_elderB (mQ HO_5) gb189 (Nat.le_of_eq hg.symm)) hb); have BK189 := aM hbox; have GW189 := sG w hg; have GE189 := sG w hg; replace HB := sB hb; clear hb hbox hg; obtain ⟨hcz16_0, hcz16_1, hcz16_2, hcz16_3, hfz16_0, hfz16_1, hfz16_2, hfz16_3⟩ := b4 BK189; obtain ⟨Ao17, co17, eo17⟩ := Kd.R_slice HO_5.out; subst eo17) | ((with_reducible refine gate_builtin (b := .append) (xs := #[.tmp 35, .tmp 37]) rfl ?_); at_builtin; refine Kd.R_append k40 (w0 := w) w.heap.size rfl (.tmp 35) (.tmp 37) 22 40 (.agg #[(.int .i64 0), (.int .i64 0), (.int .i64 0), (.string ⟨#[]⟩)]) 40 rfl Tryz.underlying22 info40 rfl (by decide) (by omega) (.slice Ao17 x5_1.length co17) x5_1 (⟨t183, t184, t185, t186⟩ : S40) [.int .i64 t183, .int .i64 t184, .int .i64 t185, .string t186] (fun k_ => k_ ≠ gb189) (fun _ => False) rfl (by first | (go_simp; done) | (go_simp; rfl)) ?aP (fun _ hk => hk.elim) ?aF ?aO ?aB ?aS ?aL ?_; (case aP => exact k40_mkM _ _ _ (⟨t183, t184, t185, t186⟩ : S40)); (case aB => exact bQ); (case aF => exact (fun k_ hk => Kd.freshB (g := gb189) (o := .cells #[.int .i64 t183, .int .i64 t184, .int .i64 t185, .string t186] 40 (0, 0)) kQ k_ hk)); (case aO => exact (by (with_reducible repeat first|apply rA|apply rD|apply r1); exact Kd.R_mono (Kd.R_far (p := ⟨gb189, 3, none⟩) (Kd.R_far (p := ⟨gb189, 2, none⟩) (Kd.R_far (p := ⟨gb189, 1, none⟩) (Kd.R_far (p := ⟨gb189, 0, none⟩) (Kd.R_mono HO_5.out (fun k_ hk => (⟨hk, hk.2⟩ : _ ∧ k_ ≠ gb189))) (fun _ hk => hk.2) (.int .i64 t183)) (fun _ hk => hk.2) (.int .i64 t184)) (fun _ hk => hk.2) (.int .i64 t185)) (fun _ hk => hk.2) (.string t186)) (fun _ hk => hk.1.2))); (case aS => exact (below_size bQ)); (case aL => have := LMc13.out; omega); intro v191 w18 ho hb hg hat; rw [← Ny190.out] at ho; have n0_ := aM (blk_grown (g := gb189) (o := .cells #[.int .i64 t183, .int .i64 t184, .int .i64 t185, .string t186] 40 (0, 0)) kQ hg (Kd.R_away HO_5.out (fun _ hk => hk.2))); have n1_ := aM hb; have n2_ := aM ho; clear BK189; clear HB; clear HO_5; have BK189 := n0_; have HB := n1_; have HO192 := n2_; clear n0_ n1_ n2_; clear ho hb hg hat)); try go_wp2_with (first | (go_at_call 27; (with_reducible refine (tok_Next.calls k1 a0 x6_1 t183 t184 t185 t186 t187 t188 _ ?side1 A2.out).mono ?_); (case side1 => exact gQ HG.out); rintro e w14 ⟨rfl, hb⟩; replace HO_5 := rK HO_5 hb; replace HB := sB hb; clear hb) | ((with_reducible refine gD 7 ?_); refine bE 7 (cs := #[.int .i64 0, .int .i64 0, .int .i64 0, .string (⟨#[]⟩ : ByteArray)]) (t := 40) ?_; intro gb189 hg w15 hbox hb; replace HO_5 := aM (Kd.R_below (Kd.R_elderB (mQ HO_5) gb189 (Nat.le_of_eq hg.symm)) hb); have BK189 := aM hbox; have GW189 := sG w hg; have GE189 := sG w hg; replace HB := sB hb; clear hb hbox hg; obtain ⟨hcz16_0, hcz16_1, hcz16_2, hcz16_3, hfz16_0, hfz16_1, hfz16_2, hfz16_3⟩ := b4 BK189; obtain ⟨Ao17, co17, eo17⟩ := Kd.R_slice HO_5.out; subst eo17) | ((with_reducible refine gate_builtin (b := .append) (xs := #[.tmp 35, .tmp 37]) rfl ?_); at_builtin; refine Kd.R_append k40 (w0 := w) w.heap.size rfl (.tmp 35) (.tmp 37) 22 40 (.agg #[(.int .i64 0), (.int .i64 0), (.int .i64 0), (.string ⟨#[]⟩)]) 40 rfl Tryz.underlying22 info40 rfl (by decide) (by omega) (.slice Ao17 x5_1.length co17) x5_1 (⟨t183, t184, t185, t186⟩ : S40) [.int .i64 t183, .int .i64 t184, .int .i64 t185, .string t186] (fun k_ => k_ ≠ gb189) (fun _ => False) rfl (by first | (go_simp; done) | (go_simp; rfl)) ?aP (fun _ hk => hk.elim) ?aF ?aO ?aB ?aS ?aL ?_; (case aP => exact k40_mkM _ _ _ (⟨t183, t184, t185, t186⟩ : S40)); (case aB => exact bQ); (case aF => exact (fun k_ hk => Kd.freshB (g := gb189) (o := .cells #[.int .i64 t183, .int .i64 t184, .int .i64 t185, .string t186] 40 (0, 0)) kQ k_ hk)); (case aO => exact (by (with_reducible repeat first|apply rA|apply rD|apply r1); exact Kd.R_mono (Kd.R_far (p := ⟨gb189, 3, none⟩) (Kd.R_far (p := ⟨gb189, 2, none⟩) (Kd.R_far (p := ⟨gb189, 1, none⟩) (Kd.R_far (p := ⟨gb189, 0, none⟩) (Kd.R_mono HO_5.out (fun k_ hk => (⟨hk, hk.2⟩ : _ ∧ k_ ≠ gb189))) (fun _ hk => hk.2) (.int .i64 t183)) (fun _ hk => hk.2) (.int .i64 t184)) (fun _ hk => hk.2) (.int .i64 t185)) (fun _ hk => hk.2) (.string t186)) (fun _ hk => hk.1.2))); (case aS => exact (below_size bQ)); (case aL => have := LMc13.out; omega); intro v191 w18 ho hb hg hat; rw [← Ny190.out] at ho; have n0_ := aM (blk_grown (g := gb189) (o := .cells #[.int .i64 t183, .int .i64 t184, .int .i64 t185, .string t186] 40 (0, 0)) kQ hg (Kd.R_away HO_5.out (fun _ hk => hk.2))); have n1_ := aM hb; have n2_ := aM ho; clear BK189; clear HB; clear HO_5; have BK189 := n0_; have HB := n1_; have HO192 := n2_; clear n0_ n1_ n2_; clear ho hb hg hat)))
   go_roundg k1
   case measure => have := HK1.out; omega
   case rel => exact ⟨(y190), (t187), vQ, H', ⟨by have := HK1.out; omega⟩, ⟨by (with_reducible repeat first|apply rA|apply rD|apply r1); exact Kd.R_mono HO192.out (fun _ hk => trivial)⟩, ⟨bQ⟩⟩
def hornbooklaw05_read.f (k : Nat) (a0 : ByteArray) : Option ((List (S43)) × Bool) := (tok_All.f k a0).bind fun bt193 => (if bt193.2.2 = 0 then ((syn_Parse.f bt193.1 (a0.size : Int)).bind fun bt198 => (some (bt198.1, (bt198.2.2 == 0)))) else (some (([] : List (S43)), false)))
theorem hornbooklaw05_read.mono : ∀ a0 k, LeO (hornbooklaw05_read.f k a0) (hornbooklaw05_read.f (k + 1) a0) := by
 intro a0 k
 unfold hornbooklaw05_read.f
 repeat' first
   | (with_reducible exact tok_All.mono _ _)
   | (with_reducible exact LeO.refl _)
   | (with_reducible exact LeO.none _)
   | (with_reducible refine LeO.ite ?_ ?_)
   | (with_reducible refine LeO.bind ?_ (fun _ => ?_))
   | exact tok_All.mono _ _
   | exact LeO.none _
   | refine LeO.ite ?_ ?_
   | refine LeO.bind ?_ (fun _ => ?_)
set_option maxHeartbeats 8000000 in
set_option maxRecDepth 100000 in
theorem hornbooklaw05_read.calls (k : Nat) (a0 : ByteArray) (r1 : List (S43)) (r2 : Bool) (w : World) (hG : GW w) (h : hornbooklaw05_read.f k a0 = some (r1, r2)) :
  Calls Tryz.prog 19 #[.string a0] w fun e w' => ∃ v0_ : Value, e = .returned (.tuple #[v0_, .bool r2]) ∧ Kd.R k43 43 w' w.heap.size (fun _ => True) v0_ r1 ∧ Below w.heap.size w w' := by
 have HG := aM hG
 clear hG
 have HB := aM (Below.refl w.heap.size w)
 have H : ((tok_All.f k a0).bind fun bt193 => (if bt193.2.2 = 0 then ((syn_Parse.f bt193.1 (a0.size : Int)).bind fun bt198 => (some (bt198.1, (bt198.2.2 == 0)))) else (some (([] : List (S43)), false)))) = some (r1, r2) := h
 clear h
 replace H := bS H
 obtain ⟨⟨t193, t194, t195⟩, A2, H⟩ := H
 try dsimp only at H
 refine iEc H ?_ ?_<;>clear H<;>intro H c3b0 c3b1 c3
 rotate_left
 ·simp only [Option.some.injEq, Prod.mk.injEq] at H
  obtain ⟨rfl, rfl⟩ := H
  go_enter Tryz.func19, Tryz.ntmps19
  go_wp2_with (first | ((with_reducible refine gC 16 ?_); refine gL (some 12) Tryz.func16 #[.string a0] ?_; (with_reducible refine (tok_All.calls k a0 t193 t194 t195 _ ?side1 A2.out).mono ?_); (case side1 => exact gQ HG.out); rintro e w8 ⟨v196, rfl, ho0, hb⟩; refine ⟨_, rfl, ?_⟩; have HO197 := lK ho0; replace HB := sB hb; clear hb ho0))
  go_ret2
  exact ⟨_, eQ, by first | exact Kd.R_nil _ _ _ _ _ | exact Kd.N_nil _ _ _ _ _ | exact Kd.V_nil _ _ _ _ _ | exact Kd.Q_nil _ _ _ _ _ | exact Kd.S_nil _ _ _ _ _, bQ⟩
 clear c3
 replace H := bS H
 obtain ⟨⟨t198, t199, t200⟩, A4, H⟩ := H
 try dsimp only at H
 simp only [Option.some.injEq, Prod.mk.injEq] at H
 obtain ⟨rfl, rfl⟩ := H
 go_enter Tryz.func19, Tryz.ntmps19
 go_wp2_with (first | ((with_reducible refine gC 16 ?_); refine gL (some 12) Tryz.func16 #[.string a0] ?_; (with_reducible refine (tok_All.calls k a0 t193 t194 t195 _ ?side1 A2.out).mono ?_); (case side1 => exact gQ HG.out); rintro e w5 ⟨v196, rfl, ho0, hb⟩; refine ⟨_, rfl, ?_⟩; have HO197 := lK ho0; replace HB := sB hb; clear hb ho0; obtain ⟨Ao6, co6, eo6⟩ := Kd.R_slice HO197.out; subst eo6) | ((with_reducible refine gC 10 ?_); refine gL (some 22) Tryz.func10 #[.slice Ao6 t193.length co6, .int .i64 (a0.size : Int)] ?_; (with_reducible refine (syn_Parse.calls _ _ t193 (a0.size : Int) t198 t199 t200 _ ?side1 ?side2 A4.out).mono ?_); (case side1 => exact cQ HO197); (case side2 => exact (Kd.R_reads' HO197.out).2.1); rintro e w7 ⟨v201, rfl, ho0, hb⟩; refine ⟨_, rfl, ?_⟩; replace HO197 := rK HO197 hb; have HO202 := lK ho0; replace HB := sB hb; clear hb ho0))
 go_ret2
 exact ⟨_, eQ, mQ HO202, bQ⟩
end Go.Proofs.YtjplnhdplpiogaaGreatDoor.M
end
section
namespace Go.Proofs.YtjplnhdplpiogaaGreatDoor.M
open Go.RowKit Go.Proofs.YtjplnhdplpiogaaGreatDoorW.PrintWords Go.Proofs.YtjplnhdplpiogaaGreatDoorW.PrintLast Go.Proofs.YtjplnhdplpiogaaGreatDoorW.PrintMore
set_option linter.unusedVariables false
set_option linter.unusedSimpArgs false
set_option maxRecDepth 100000
set_option maxHeartbeats 8000000
def exOk (l : List S43) : Prop := l.length = 2 ∧ (rd_T43 l 0).f4.length = 1 ∧ (rd_T43 l 0).f0 = 4 ∧ (rd_T43 l 0).f1 = 2 ∧ (rd_T50 (rd_T43 l 0).f4 0).f0.f0 = 1 ∧ (rd_T50 (rd_T43 l 0).f4 0).f0.f1 = 65 ∧ (rd_T50 (rd_T43 l 0).f4 0).f1.f0 = 1 ∧ (rd_T50 (rd_T43 l 0).f4 0).f1.f1 = 65 ∧ (rd_T50 (rd_T43 l 0).f4 0).f2 = 7 ∧ (rd_T43 l 1).f0 = 0 ∧ (rd_T43 l 1).f2.toList = [87] ∧ (rd_T43 l 1).f3.f2 = 1
instance (l : List S43) : Decidable (exOk l) := by unfold exOk; infer_instance
def hornbooklaw05_awake.f (k : Nat) : Option Bool := (hornbooklaw05_read.f k (⟨#[49, 32, 98, 101, 103, 105, 110, 99, 105, 100, 99, 104, 97, 114, 32, 60, 52, 49, 62, 32, 55, 32, 101, 110, 100, 99, 105, 100, 99, 104, 97, 114, 32, 47, 87, 32, 49, 32, 100, 101, 102]⟩ : ByteArray)).bind fun r => if r.2 = true ∧ exOk r.1 then some true else none
theorem hornbooklaw05_awake.mono (k : Nat) : LeO (hornbooklaw05_awake.f k) (hornbooklaw05_awake.f (k + 1)) := LeO.bind (hornbooklaw05_read.mono _ _) (fun _ => LeO.refl _)
theorem hornbooklaw05_awake.calls (k : Nat) (r : Bool) (w : World) (hG : GW w) (h : hornbooklaw05_awake.f k = some r) : Calls Tryz.prog 8 #[] w fun e w' => e = .returned (.bool r) ∧ Below w.heap.size w w' := by
 have hu46 := Tryz.underlying46
 have HB := aM (Below.refl w.heap.size w)
 unfold hornbooklaw05_awake.f at h
 obtain ⟨⟨l, b⟩, hr, h⟩ := Option.bind_eq_some_iff.mp h
 dsimp only at h
 split at h
 rotate_left
 ·cases h
 rename_i hc
 obtain rfl := Option.some.inj h
 obtain ⟨rfl, hl, hl4, h0, h1, g0, g1, g2, g3, g4, j0, j1, j2⟩ := hc
 have HR := aM hr
 have HG := aM hG
 have hlq : (((l.length : Nat) : Int) != 2) = false := bne_eq_false_iff_eq.mpr (by omega)
 have hll : (((rd_T43 l 0).f4.length : Int) != 1) = false := bne_eq_false_iff_eq.mpr (by omega)
 clear h hr hG
 go_enter Tryz.func8, Tryz.ntmps8
 go_wp2_with (first | (go_at_call 19; (with_reducible refine (hornbooklaw05_read.calls k _ l true _ HG.out HR.out).mono ?_); rintro x w1 ⟨v, rfl, ho, hb⟩; replace HB := sB hb; have HO := aM ho; obtain ⟨Al, cl, rfl⟩ := Kd.R_slice ho; have hC := (Kd.R_reads' ho).2.2; obtain ⟨ad, A7, c7, rfl, x0, x1, x2, x3, x4, x5, x6, x7, lc7, hE⟩ := at_T43 hC 0 (by omega) (by omega); obtain ⟨ad2, B7, d7, eq2, y0, y1, y2, y3, y4, y5, y6, y7, lc8, hE2⟩ := at_T43 hC 1 (by omega) (by omega); obtain rfl : ad = ad2 := (by injection eq2); obtain ⟨ae, A5, c5, A6, c6, rfl, e0, e1, e2, e3, e4, e5, e6, -, -, -, -⟩ := at_T50 hE 0 (by omega) (by omega); rw [h0] at x0; rw [h1] at x1; rw [g0] at e0; rw [g1] at e1; rw [g2] at e2; rw [g3] at e3; rw [g4] at e4; rw [j0] at y0; rw [j2] at y5; simp only [show (0 : Int).toNat = 0 from rfl, show (1 : Int).toNat = 1 from rfl, Nat.reduceMul, Nat.reduceEqDiff, Go.Addr.add, ↓reduceIte, Nat.zero_mul, Nat.one_mul] at x0 x1 x7 y0 y2 y5 e0 e1 e2 e3 e4; have z1 := eq_true (show (0 : Int) < l.length by omega); have z2 := eq_true (show (1 : Int) < l.length by omega); have z3 := eq_true (show (0 : Int) < (rd_T43 l 0).f4.length by omega); clear hb ho hC hE hE2))
 have j1' : ((rd_T43 l 1).f2.toList == [87]) = true := beq_iff_eq.mpr j1
 have hb2 := below_alloc HB.out (.cells #[.int .i64 1, .int .i64 65] 46)
 simp only [List.append_eq, List.cons_append, List.nil_append]
 refine norm_w (F := fun W => (W.cell? ad = some (.int .i64 4) ∧ W.cell? ⟨ad.block, ad.off + 1, none⟩ = some (.int .i64 2) ∧ W.cell? ⟨ad.block, ad.off + 7, none⟩ = some (.slice (some ae) (rd_T43 l 0).f4.length c7) ∧ W.cell? ⟨ad.block, ad.off + 8, none⟩ = some (.int .i64 0) ∧ W.cell? ⟨ad.block, ad.off + 8 + 2, none⟩ = some (.string (rd_T43 l 1).f2) ∧ W.cell? ⟨ad.block, ad.off + 8 + 5, none⟩ = some (.int .i64 1) ∧ W.cell? ae = some (.int .i64 1) ∧ W.cell? ⟨ae.block, ae.off + 1, none⟩ = some (.int .i64 65) ∧ W.cell? ⟨ae.block, ae.off + 2, none⟩ = some (.int .i64 1) ∧ W.cell? ⟨ae.block, ae.off + 3, none⟩ = some (.int .i64 65) ∧ W.cell? ⟨ae.block, ae.off + 4, none⟩ = some (.int .i64 7) ∧ W.cell? ⟨w1.heap.size, 0, none⟩ = some (.int .i64 1) ∧ W.cell? ⟨w1.heap.size, 1, none⟩ = some (.int .i64 65)) ∧ Below w.heap.size w W) ⟨⟨al_cell0 _ x0, al_cell0 _ x1, al_cell0 _ x7, al_cell0 _ y0, al_cell0 _ y2, al_cell0 _ y5, al_cell0 _ e0, al_cell0 _ e1, al_cell0 _ e2, al_cell0 _ e3, al_cell0 _ e4, blk_cell (blk_new w1 (.cells #[.int .i64 1, .int .i64 65] 46)) 0, blk_cell (blk_new w1 (.cells #[.int .i64 1, .int .i64 65] 46)) 1⟩, hb2⟩ ?_
 clear x0 x1 x7 y0 y2 y5 e0 e1 e2 e3 e4 HB hb2
 rintro w5 ⟨⟨x0, x1, x7, y0, y2, y5, e0, e1, e2, e3, e4, n0, n1⟩, hb5⟩
 have HB := aM hb5
 clear hb5
 go_region_held3 (fun W : World => W.cell? ad = some (.int .i64 4) ∧ W.cell? ⟨ad.block, ad.off + 1, none⟩ = some (.int .i64 2) ∧ W.cell? ⟨ad.block, ad.off + 7, none⟩ = some (.slice (some ae) (rd_T43 l 0).f4.length c7) ∧ W.cell? ⟨ad.block, ad.off + 8, none⟩ = some (.int .i64 0) ∧ W.cell? ⟨ad.block, ad.off + 8 + 2, none⟩ = some (.string (rd_T43 l 1).f2) ∧ W.cell? ⟨ad.block, ad.off + 8 + 5, none⟩ = some (.int .i64 1) ∧ W.cell? ae = some (.int .i64 1) ∧ W.cell? ⟨ae.block, ae.off + 1, none⟩ = some (.int .i64 65) ∧ W.cell? ⟨ae.block, ae.off + 2, none⟩ = some (.int .i64 1) ∧ W.cell? ⟨ae.block, ae.off + 3, none⟩ = some (.int .i64 65) ∧ W.cell? ⟨ae.block, ae.off + 4, none⟩ = some (.int .i64 7) ∧ W.cell? ⟨w1.heap.size, 0, none⟩ = some (.int .i64 1) ∧ W.cell? ⟨w1.heap.size, 1, none⟩ = some (.int .i64 65)) (first | exact ⟨x0, x1, x7, y0, y2, y5, e0, e1, e2, e3, e4, n0, n1⟩ | exact ⟨pw_cell_below hb x0, pw_cell_below hb x1, pw_cell_below hb x7, pw_cell_below hb y0, pw_cell_below hb y2, pw_cell_below hb y5, pw_cell_below hb e0, pw_cell_below hb e1, pw_cell_below hb e2, pw_cell_below hb e3, pw_cell_below hb e4, pw_cell_below hb n0, pw_cell_below hb n1⟩) (first | (go_at_call 14; (with_reducible refine (syn_Begin.calls 8 (⟨#[98, 101, 103, 105, 110, 98, 102, 99, 104, 97, 114]⟩ : ByteArray) _ rfl).mono ?_); rintro x w2 ⟨rfl, hb⟩; replace HB := sB hb))
 go_wp2_with (fail)
 go_ret
 exact ⟨rfl, bQ⟩
end Go.Proofs.YtjplnhdplpiogaaGreatDoor.M
end
section
namespace Go.Proofs.YtjplnhdplpiogaaGreatDoor.M
open Go.RowKit Go.Proofs.YtjplnhdplpiogaaGreatDoorW.PrintWords Go.Proofs.YtjplnhdplpiogaaGreatDoorW.PrintLast Go.Proofs.YtjplnhdplpiogaaGreatDoorW.PrintMore
attribute [local go_sem] max2_int min2_int max_two min_two max_three min_three max_four min_four
set_option linter.unusedVariables false
set_option linter.unusedSimpArgs false
def hornbooklaw05_SynDeep.l0 : Nat → List (S40) → Bool → Int → List (S40) → Int → Option (Bool)
 | 0, _, _, _, _, _ => none
 | k + 1, x0, x5, x6, x7, x8 => if x8 < (x0.length : Int) then (if 0 ≤ x8 then (if ((rd_T40 x0 x8).f0) < 6 then (if x7.length < 3518437208883 then (hornbooklaw05_SynDeep.l0 k x0 x5 x6 (x7 ++ [(⟨(rd_T40 x0 x8).f0, (rd_T40 x0 x8).f1, (rd_T40 x0 x8).f2, (rd_T40 x0 x8).f3⟩ : S40)]) (wrap64 (x8 + 1))) else (none)) else (hornbooklaw05_SynDeep.l0 k x0 x5 x6 x7 (wrap64 (x8 + 1)))) else (none)) else (if x7.length < 3518437208883 then ((some (x7 ++ [(⟨wrap64 (x6 + 1), 0, 0, (⟨#[]⟩ : ByteArray)⟩ : S40)] : List (S40))).bind fun y281 => ((syn_Parse.f y281 9).bind fun bt284 => (if 0 ≤ (wrap64 ((y281.length : Int) - 1)) then (if (wrap64 ((y281.length : Int) - 1)) ≤ (y281.length : Int) then ((syn_Parse.f (y281.take ((wrap64 ((y281.length : Int) - 1)) : Int).toNat) 9).bind fun bt294 => (if x5 = true then (if bt284.2.2 = 0 then (if (bt284.1.length : Int) = 0 then (if bt294.2.2 = 2 then (if (bt294.1.length : Int) = 0 then ((hornbooklaw05_items.f k bt284.1).bind fun t299 => ((hornbookref05_Same.f t299 ([] : List (S69))).bind fun t302 => (some t302))) else (some false)) else (some false)) else (some false)) else (some false)) else (some false))) else (none)) else (none)))) else (none))
def hornbooklaw05_SynDeep.f (k : Nat) (l0 : List (S40)) (a1 : Int) : Option (Bool) := (hornbooklaw05_awake.f k).bind fun t268 => (if (l0.length : Int) > 200 then (some t268) else ((some (([6, 8, 10] : List Int) : List Int)).bind fun y269 => (if 0 ≤ (Int.tmod (Go.bits .and .i64 a1 65535) 3) then (if (Int.tmod (Go.bits .and .i64 a1 65535) 3) < (y269.length : Int) then (hornbooklaw05_SynDeep.l0 k l0 t268 (rd y269 (Int.tmod (Go.bits .and .i64 a1 65535) 3)) (([(⟨rd y269 (Int.tmod (Go.bits .and .i64 a1 65535) 3), 0, 0, (⟨#[]⟩ : ByteArray)⟩ : S40)] : List (S40))) 0) else (none)) else (none))))
set_option maxHeartbeats 8000000 in
set_option maxRecDepth 100000 in
theorem hornbooklaw05_SynDeep.calls (k : Nat) (A0 : Option Addr) (c0 : Nat) (l0 : List (S40)) (a1 : Int) (r : Bool) (w : World) (hG : GW w) (hr0 : Kd.C k40 w A0 l0.length l0) (hc0 : l0.length ≤ c0) (h : hornbooklaw05_SynDeep.f k l0 a1 = some r) (hr_ : r = true) :
  Calls Tryz.prog 7 #[.slice A0 l0.length c0, .int .i64 a1] w fun e w' => e = .returned (.bool r) ∧ Below w.heap.size w w' := by
 have HRT := aM hr_
 clear hr_
 have hu40 := Tryz.underlying40
 have HR0 := aM hr0
 have HC0 := aM hc0
 clear hr0 hc0
 have HG := aM hG
 clear hG
 have HB := aM (Below.refl w.heap.size w)
 have H : ((hornbooklaw05_awake.f k).bind fun t268 => (if (l0.length : Int) > 200 then (some t268) else ((some (([6, 8, 10] : List Int) : List Int)).bind fun y269 => (if 0 ≤ (Int.tmod (Go.bits .and .i64 a1 65535) 3) then (if (Int.tmod (Go.bits .and .i64 a1 65535) 3) < (y269.length : Int) then (hornbooklaw05_SynDeep.l0 k l0 t268 (rd y269 (Int.tmod (Go.bits .and .i64 a1 65535) 3)) (([(⟨rd y269 (Int.tmod (Go.bits .and .i64 a1 65535) 3), 0, 0, (⟨#[]⟩ : ByteArray)⟩ : S40)] : List (S40))) 0) else (none)) else (none))))) = some r := h
 clear h
 replace H := bS H
 obtain ⟨t268, A3, H⟩ := H
 try dsimp only at H
 refine iNc H ?_ ?_<;>clear H<;>intro H c4
 ·have c4b0 : decide (200 < (l0.length : Int)) = true := decide_eq_true c4
  have c4b1 : decide (200 < l0.length) = true := decide_eq_true (by omega)
  clear c4
  obtain rfl := Option.some.inj H
  go_enter Tryz.func7, Tryz.ntmps7
  go_wp2_with (first | ((with_reducible refine gC 8 ?_); refine gL (some 15) Tryz.func8 #[] ?_; (with_reducible refine cB (hornbooklaw05_awake.calls k  t268 _ ?side1 A3.out) ?_); (case side1 => exact gQ HG.out); intro w5 hb; replace HB := sB hb; clear hb))
  go_ret
  exact ⟨eQ, bQ⟩
 have c4b0 : decide (200 < (l0.length : Int)) = false := decide_eq_false c4
 have c4b1 : decide (200 < l0.length) = false := decide_eq_false (by omega)
 clear c4
 obtain ⟨y269, hy269⟩ : ∃ y_ : List Int, y_ = (([6, 8, 10] : List Int)) := ⟨_, rfl⟩
 replace H : (if 0 ≤ (Int.tmod (Go.bits .and .i64 a1 65535) 3) then (if (Int.tmod (Go.bits .and .i64 a1 65535) 3) < (y269.length : Int) then (hornbooklaw05_SynDeep.l0 k l0 t268 (rd y269 (Int.tmod (Go.bits .and .i64 a1 65535) 3)) (([(⟨rd y269 (Int.tmod (Go.bits .and .i64 a1 65535) 3), 0, 0, (⟨#[]⟩ : ByteArray)⟩ : S40)] : List (S40))) 0) else (none)) else (none)) = some r := by first | (rw [hy269]; with_reducible exact H) | (have H2_ := (Option.bind_some _ _).symm.trans H; rw [hy269]; with_reducible exact H2_) | (have H2_ := (Option.bind_some _ _).symm.trans H; with_reducible exact H2_) | with_reducible exact H | (rw [hy269]; exact H) | exact H
 have Ny269 := aM hy269
 clear hy269
 obtain ⟨ji6, hji6⟩ : ∃ j_ : Int, (Int.tmod (Go.bits .and .i64 a1 65535) 3) = j_ := ⟨_, rfl⟩
 replace H : (if 0 ≤ (ji6) then (if (ji6) < (y269.length : Int) then (hornbooklaw05_SynDeep.l0 k l0 t268 (rd y269 (ji6)) (([(⟨rd y269 (ji6), 0, 0, (⟨#[]⟩ : ByteArray)⟩ : S40)] : List (S40))) 0) else (none)) else (none)) = some r := by first | (rw [hji6] at H; exact H) | (simp only [hji6] at H ⊢; exact H)
 (try rw [hji6] at A3)
 refine iD H ?_ ?_<;>clear H<;>intro H c7b0
 rotate_left
 ·exact absurd H (by simp)
 refine iD H ?_ ?_<;>clear H<;>intro H c8b0
 rotate_left
 ·exact absurd H (by simp)
 obtain ⟨y273, hy273⟩ : ∃ y_ : List (S40), y_ = (([(⟨rd y269 (ji6), 0, 0, (⟨#[]⟩ : ByteArray)⟩ : S40)] : List (S40))) := ⟨_, rfl⟩
 replace H : (hornbooklaw05_SynDeep.l0 k l0 t268 (rd y269 (ji6)) y273 0) = some r := by first | (rw [hy273]; with_reducible exact H) | (have H2_ := (Option.bind_some _ _).symm.trans H; rw [hy273]; with_reducible exact H2_) | (have H2_ := (Option.bind_some _ _).symm.trans H; with_reducible exact H2_) | with_reducible exact H | (rw [hy273]; exact H) | exact H
 have Ny273 := aM hy273
 clear hy273
 have H' := aM H
 clear H
 go_enter Tryz.func7, Tryz.ntmps7
 go_wp2_with (first | ((with_reducible refine gC 8 ?_); refine gL (some 15) Tryz.func8 #[] ?_; (with_reducible refine cB (hornbooklaw05_awake.calls k  t268 _ ?side1 A3.out) ?_); (case side1 => exact gQ HG.out); intro w9 hb; replace HB := sB hb; clear hb) | ((with_reducible refine gD 20 ?_); (try (refine gate_guard (by rfl) ?_; dsimp only)); refine Kd.R_lit (Kd.int .i64) _ 3 ?hg (N := 20) ?hd (xs := ([6, 8, 10] : List Int)) (inner := [.int .i64 6, .int .i64 8, .int .i64 10]) (ok := fun _ => True) (okp := fun _ => True) ?hr ?hp (fun _ hk => hk) trivial (Below.refl _ _) (Nat.le_refl _) (by simp) ?_; (case hd => rfl); (case hg => rfl); (case hr => first | (go_simp; done) | (go_simp; rfl)); (case hp => exact (Reps.one (show Kd.M (Kd.int .i64) _ _ _ 6 [.int .i64 6] from rfl) (Reps.one (show Kd.M (Kd.int .i64) _ _ _ 8 [.int .i64 8] from rfl) (Reps.one (show Kd.M (Kd.int .i64) _ _ _ 10 [.int .i64 10] from rfl) (Reps.none _ _))))); intro v270 w10 ho11 hb hg_ hnew_; clear hg_ hnew_; (first | rw [← Ny269.out] at ho11 | (simp only [Int.reduceToNat] at ho11; rw [← Ny269.out] at ho11)); have HO271 := lK ho11; replace HB := sB hb; clear hb ho11; obtain ⟨Ao12, co12, eo12⟩ := Kd.R_slice HO271.out; subst eo12; have p272 : 0 ≤ ((ji6) : Int) := of_decide_eq_true hQ; have q272 : (ji6) < (y269.length : Int) := of_decide_eq_true hQ; obtain ⟨ad272, e272, hx272_0⟩ := Kd.at_int (Kd.R_reads' HO271.out).2.2 (ji6) p272 q272; cases e272; replace p272 := eq_true p272; replace q272 := eq_true q272) | ((with_reducible refine gD 28 ?_); (try (refine gate_guard (by rfl) ?_; dsimp only)); refine Kd.R_lit k40 _ 40 ?hg (N := 28) ?hd (xs := ([(⟨rd y269 (ji6), 0, 0, (⟨#[]⟩ : ByteArray)⟩ : S40)] : List (S40))) (inner := [.int .i64 (rd y269 (ji6)), .int .i64 0, .int .i64 0, .string (⟨#[]⟩ : ByteArray)]) (ok := fun _ => True) (okp := fun _ => True) ?hr ?hp (fun _ hk => hk) trivial (Below.refl _ _) (Nat.le_refl _) (by simp) ?_; (case hd => rfl); (case hg => rfl); (case hr => first | (go_simp; done) | (go_simp; rfl)); (case hp => exact (Reps.c4 (show Kd.M k40 _ _ _ (⟨rd y269 (ji6), 0, 0, (⟨#[]⟩ : ByteArray)⟩ : S40) [.int .i64 (rd y269 (ji6)), .int .i64 0, .int .i64 0, .string (⟨#[]⟩ : ByteArray)] from (k40_mkM _ _ _ (⟨rd y269 (ji6), 0, 0, (⟨#[]⟩ : ByteArray)⟩ : S40) )) (Reps.none _ _))); intro v274 w13 ho14 hb hg_ hnew_; clear hg_ hnew_; (first | rw [← Ny273.out] at ho14 | (simp only [Int.reduceToNat] at ho14; rw [← Ny273.out] at ho14)); replace HO271 := rK HO271 hb; have HO275 := lK ho14; replace HB := sB hb; clear hb ho14))
 go_loopg [7, 8] k (fun kq v7 v8 w' => ∃ (x7_1 : List (S40)) (x8_1 : Int), v8 = .int .i64 x8_1 ∧ Aside0 (hornbooklaw05_SynDeep.l0 kq l0 t268 (rd y269 (ji6)) x7_1 x8_1 = some r) ∧ Aside0 (kq ≤ k) ∧ Aside0 (Kd.R k40 40 w' w.heap.size (fun _ => True) v7 x7_1) ∧ Aside0 (Below w.heap.size w w'))
 case atStart => exact ⟨(y273), (0), vQ, H', ⟨Nat.le_refl _⟩, ⟨mQ HO275⟩, ⟨bQ⟩⟩
 case round =>
  clear H'
  try clear p2
  try clear q2
  try clear hx2
  try clear c4
  try clear c4b0
  try clear c4b1
  try clear c7
  try clear c7b0
  try clear c8
  try clear c8b0
  try clear hx272_0
  try clear p272
  try clear q272
  obtain ⟨x7_1, x8_1, rfl, HA, HK1, HO_7, HB⟩ := hrel
  cases gk with
  | zero => exact absurd HA.out (by simp [hornbooklaw05_SynDeep.l0])
  | succ k1 =>
   have H := HA.out
   clear HA
   simp only [hornbooklaw05_SynDeep.l0] at H
   refine iD H ?_ ?_<;>clear H<;>intro H c15b0
   ·refine iD H ?_ ?_<;>clear H<;>intro H c16b0
    rotate_left
    ·exact absurd H (by simp)
    refine iD H ?_ ?_<;>clear H<;>intro H c17b0
    rotate_left
    ·have H' := aM H
     clear H
     have p276 : 0 ≤ (x8_1 : Int) := of_decide_eq_true hQ
     have q276 : x8_1 < (l0.length : Int) := of_decide_eq_true hQ
     obtain ⟨ad276, e276, hx276_0, hx276_1, hx276_2, hx276_3⟩ := at_T40 HR0.out x8_1 p276 q276
     cases e276
     replace hx276_0 := (HB.out.cell (World.block_lt_of_cell? w _ hx276_0)).trans hx276_0
     replace hx276_1 := (HB.out.cell (World.block_lt_of_cell? w _ hx276_1)).trans hx276_1
     replace hx276_2 := (HB.out.cell (World.block_lt_of_cell? w _ hx276_2)).trans hx276_2
     replace hx276_3 := (HB.out.cell (World.block_lt_of_cell? w _ hx276_3)).trans hx276_3
     replace p276 := eq_true p276
     replace q276 := eq_true q276
     go_wp2
     go_roundg k1
     case measure => have := HK1.out; omega
     case rel => exact ⟨(x7_1), (wrap64 (x8_1 + 1)), vQ, H', ⟨by have := HK1.out; omega⟩, ⟨mQ HO_7⟩, ⟨bQ⟩⟩
    refine iNc H ?_ ?_<;>clear H<;>intro H c18
    rotate_left
    ·exact absurd H (by simp)
    have LMc18 := aM c18
    clear c18
    obtain ⟨y278, hy278⟩ : ∃ y_ : List (S40), y_ = (x7_1 ++ [(⟨(rd_T40 l0 x8_1).f0, (rd_T40 l0 x8_1).f1, (rd_T40 l0 x8_1).f2, (rd_T40 l0 x8_1).f3⟩ : S40)]) := ⟨_, rfl⟩
    replace H : (hornbooklaw05_SynDeep.l0 k1 l0 t268 (rd y269 (ji6)) y278 (wrap64 (x8_1 + 1))) = some r := by first | (rw [hy278]; with_reducible exact H) | (have H2_ := (Option.bind_some _ _).symm.trans H; rw [hy278]; with_reducible exact H2_) | (have H2_ := (Option.bind_some _ _).symm.trans H; with_reducible exact H2_) | with_reducible exact H | (rw [hy278]; exact H) | exact H
    have Ny278 := aM hy278
    clear hy278
    have H' := aM H
    clear H
    have p276 : 0 ≤ (x8_1 : Int) := of_decide_eq_true hQ
    have q276 : x8_1 < (l0.length : Int) := of_decide_eq_true hQ
    obtain ⟨ad276, e276, hx276_0, hx276_1, hx276_2, hx276_3⟩ := at_T40 HR0.out x8_1 p276 q276
    cases e276
    replace hx276_0 := (HB.out.cell (World.block_lt_of_cell? w _ hx276_0)).trans hx276_0
    replace hx276_1 := (HB.out.cell (World.block_lt_of_cell? w _ hx276_1)).trans hx276_1
    replace hx276_2 := (HB.out.cell (World.block_lt_of_cell? w _ hx276_2)).trans hx276_2
    replace hx276_3 := (HB.out.cell (World.block_lt_of_cell? w _ hx276_3)).trans hx276_3
    replace p276 := eq_true p276
    replace q276 := eq_true q276
    have p277 : 0 ≤ (x8_1 : Int) := of_decide_eq_true hQ
    have q277 : x8_1 < (l0.length : Int) := of_decide_eq_true hQ
    obtain ⟨ad277, e277, hx277_0, hx277_1, hx277_2, hx277_3⟩ := at_T40 HR0.out x8_1 p277 q277
    obtain rfl : ad276 = ad277 := (by injection e277)
    replace hx277_0 := (HB.out.cell (World.block_lt_of_cell? w _ hx277_0)).trans hx277_0
    replace hx277_1 := (HB.out.cell (World.block_lt_of_cell? w _ hx277_1)).trans hx277_1
    replace hx277_2 := (HB.out.cell (World.block_lt_of_cell? w _ hx277_2)).trans hx277_2
    replace hx277_3 := (HB.out.cell (World.block_lt_of_cell? w _ hx277_3)).trans hx277_3
    replace p277 := eq_true p277
    replace q277 := eq_true q277
    go_wp2_with (first | ((with_reducible refine gate_builtin (b := .append) (xs := #[.tmp 41, .tmp 46]) rfl ?_); (try (refine gate_guard (by rfl) ?_; dsimp only)); at_builtin; refine Kd.R_append k40 (w0 := w) w.heap.size rfl (.tmp 41) (.tmp 46) 22 40 (.agg #[(.int .i64 0), (.int .i64 0), (.int .i64 0), (.string ⟨#[]⟩)]) 40 rfl Tryz.underlying22 info40 rfl (by decide) (by omega) u7 x7_1 (⟨(rd_T40 l0 x8_1).f0, (rd_T40 l0 x8_1).f1, (rd_T40 l0 x8_1).f2, (rd_T40 l0 x8_1).f3⟩ : S40) [.int .i64 ((rd_T40 l0 x8_1).f0), .int .i64 ((rd_T40 l0 x8_1).f1), .int .i64 ((rd_T40 l0 x8_1).f2), .string ((rd_T40 l0 x8_1).f3)] (fun _ => True) (fun _ => False) rfl rfl ?aP (fun _ hk => hk.elim) ?aF ?aO ?aB ?aS ?aL ?_; (case aP => exact k40_mkM _ _ _ (⟨(rd_T40 l0 x8_1).f0, (rd_T40 l0 x8_1).f1, (rd_T40 l0 x8_1).f2, (rd_T40 l0 x8_1).f3⟩ : S40)); (case aB => exact bQ); (case aF => exact (fun _ _ => trivial)); (case aO => exact (mQ HO_7)); (case aS => exact (below_size bQ)); (case aL => have := LMc18.out; omega); intro v279 w19 ho hb hg hat; rw [← Ny278.out] at ho; have n0_ := aM hb; have n1_ := aM ho; clear HB; clear HO_7; have HB := n0_; have HO280 := n1_; clear n0_ n1_; clear ho hb hg hat))
    go_roundg k1
    case measure => have := HK1.out; omega
    case rel => exact ⟨(y278), (wrap64 (x8_1 + 1)), vQ, H', ⟨by have := HK1.out; omega⟩, ⟨mQ HO280⟩, ⟨bQ⟩⟩
   refine iNc H ?_ ?_<;>clear H<;>intro H c20
   rotate_left
   ·exact absurd H (by simp)
   have LMc20 := aM c20
   clear c20
   obtain ⟨y281, hy281⟩ : ∃ y_ : List (S40), y_ = (x7_1 ++ [(⟨wrap64 ((rd y269 (ji6)) + 1), 0, 0, (⟨#[]⟩ : ByteArray)⟩ : S40)]) := ⟨_, rfl⟩
   replace H : ((syn_Parse.f y281 9).bind fun bt284 => (if 0 ≤ (wrap64 ((y281.length : Int) - 1)) then (if (wrap64 ((y281.length : Int) - 1)) ≤ (y281.length : Int) then ((syn_Parse.f (y281.take ((wrap64 ((y281.length : Int) - 1)) : Int).toNat) 9).bind fun bt294 => (if t268 = true then (if bt284.2.2 = 0 then (if (bt284.1.length : Int) = 0 then (if bt294.2.2 = 2 then (if (bt294.1.length : Int) = 0 then ((hornbooklaw05_items.f k1 bt284.1).bind fun t299 => ((hornbookref05_Same.f t299 ([] : List (S69))).bind fun t302 => (some t302))) else (some false)) else (some false)) else (some false)) else (some false)) else (some false))) else (none)) else (none))) = some r := by first | (rw [hy281]; with_reducible exact H) | (have H2_ := (Option.bind_some _ _).symm.trans H; rw [hy281]; with_reducible exact H2_) | (have H2_ := (Option.bind_some _ _).symm.trans H; with_reducible exact H2_) | with_reducible exact H | (rw [hy281]; exact H) | exact H
   have Ny281 := aM hy281
   clear hy281
   replace H := bS H
   obtain ⟨⟨t284, t285, t286⟩, A21, H⟩ := H
   try dsimp only at H
   obtain ⟨ji22, hji22⟩ : ∃ j_ : Int, (wrap64 ((y281.length : Int) - 1)) = j_ := ⟨_, rfl⟩
   replace H : (if 0 ≤ (ji22) then (if (ji22) ≤ (y281.length : Int) then ((syn_Parse.f (y281.take ((ji22) : Int).toNat) 9).bind fun bt294 => (if t268 = true then (if t286 = 0 then (if (t284.length : Int) = 0 then (if bt294.2.2 = 2 then (if (bt294.1.length : Int) = 0 then ((hornbooklaw05_items.f k1 t284).bind fun t299 => ((hornbookref05_Same.f t299 ([] : List (S69))).bind fun t302 => (some t302))) else (some false)) else (some false)) else (some false)) else (some false)) else (some false))) else (none)) else (none)) = some r := by first | (rw [hji22] at H; exact H) | (simp only [hji22] at H ⊢; exact H)
   (try rw [hji22] at A21)
   have hji22w : (IntKind.i64.wrap ((y281.length : Int) - 1)) = ji22 := (i64_w _).trans hji22
   refine iNc H ?_ ?_<;>clear H<;>intro H c23
   rotate_left
   ·exact absurd H (by simp)
   have c23b0 := eq_true c23
   have c23b1 : decide (0 ≤ (ji22)) = true := decide_eq_true c23
   clear c23
   refine iNc H ?_ ?_<;>clear H<;>intro H c24
   rotate_left
   ·exact absurd H (by simp)
   have c24b0 := eq_true c24
   have c24b1 : decide ((ji22) ≤ (y281.length : Int)) = true := decide_eq_true c24
   clear c24
   obtain ⟨y289, hy289⟩ : ∃ y_ : List (S40), y_ = (y281.take ((ji22) : Int).toNat) := ⟨_, rfl⟩
   replace H : ((syn_Parse.f y289 9).bind fun bt294 => (if t268 = true then (if t286 = 0 then (if (t284.length : Int) = 0 then (if bt294.2.2 = 2 then (if (bt294.1.length : Int) = 0 then ((hornbooklaw05_items.f k1 t284).bind fun t299 => ((hornbookref05_Same.f t299 ([] : List (S69))).bind fun t302 => (some t302))) else (some false)) else (some false)) else (some false)) else (some false)) else (some false))) = some r := by first | (rw [hy289]; with_reducible exact H) | (have H2_ := (Option.bind_some _ _).symm.trans H; rw [hy289]; with_reducible exact H2_) | (have H2_ := (Option.bind_some _ _).symm.trans H; with_reducible exact H2_) | with_reducible exact H | (rw [hy289]; exact H) | exact H
   have Ny289 := aM hy289
   clear hy289
   replace H := bS H
   obtain ⟨⟨t294, t295, t296⟩, A25, H⟩ := H
   try dsimp only at H
   by_cases c26 : t268 = true
   rotate_left
   ·replace c26 := Bool.eq_false_iff.mpr c26
    subst c26
    rw [if_neg (show ¬ (false = true) by decide)] at H
    exact absurd ((Option.some.inj H).trans HRT.out) (by decide)
   subst c26
   rw [if_pos rfl] at H
   refine iEc H ?_ ?_<;>clear H<;>intro H c27b0 c27b1 c27
   rotate_left
   ·exact absurd ((Option.some.inj H).trans HRT.out) (by decide)
   clear c27
   refine iEc H ?_ ?_<;>clear H<;>intro H c28b0 c28b1 c28
   rotate_left
   ·have c28b2 : ¬ (t284 = []) := fun h_ => c28 (by rw [h_]; rfl)
    exact absurd ((Option.some.inj H).trans HRT.out) (by decide)
   clear c28
   refine iEc H ?_ ?_<;>clear H<;>intro H c29b0 c29b1 c29
   rotate_left
   ·exact absurd ((Option.some.inj H).trans HRT.out) (by decide)
   clear c29
   refine iEc H ?_ ?_<;>clear H<;>intro H c30b0 c30b1 c30
   rotate_left
   ·have c30b2 : ¬ (t294 = []) := fun h_ => c30 (by rw [h_]; rfl)
    exact absurd ((Option.some.inj H).trans HRT.out) (by decide)
   clear c30
   replace H := bS H
   obtain ⟨t299, A31, H⟩ := H
   try dsimp only at H
   replace H := bS H
   obtain ⟨t302, A32, H⟩ := H
   try dsimp only at H
   obtain rfl := Option.some.inj H
   go_wp2_with (first | ((with_reducible refine gate_builtin (b := .append) (xs := #[.tmp 48, .tmp 52]) rfl ?_); (try (refine gate_guard (by rfl) ?_; dsimp only)); at_builtin; refine Kd.R_append k40 (w0 := w) w.heap.size rfl (.tmp 48) (.tmp 52) 22 40 (.agg #[(.int .i64 0), (.int .i64 0), (.int .i64 0), (.string ⟨#[]⟩)]) 40 rfl Tryz.underlying22 info40 rfl (by decide) (by omega) u7 x7_1 (⟨wrap64 ((rd y269 (ji6)) + 1), 0, 0, (⟨#[]⟩ : ByteArray)⟩ : S40) [.int .i64 (wrap64 ((rd y269 (ji6)) + 1)), .int .i64 0, .int .i64 0, .string (⟨#[]⟩ : ByteArray)] (fun _ => True) (fun _ => False) rfl rfl ?aP (fun _ hk => hk.elim) ?aF ?aO ?aB ?aS ?aL ?_; (case aP => exact k40_mkM _ _ _ (⟨wrap64 ((rd y269 (ji6)) + 1), 0, 0, (⟨#[]⟩ : ByteArray)⟩ : S40)); (case aB => exact bQ); (case aF => exact (fun _ _ => trivial)); (case aO => exact (mQ HO_7)); (case aS => exact (below_size bQ)); (case aL => have := LMc20.out; omega); intro v282 w33 ho hb hg hat; rw [← Ny281.out] at ho; have n0_ := aM hb; have n1_ := aM ho; clear HB; clear HO_7; have HB := n0_; have HO283 := n1_; clear n0_ n1_; clear ho hb hg hat; obtain ⟨Ao34, co34, eo34⟩ := Kd.R_slice HO283.out; subst eo34) | ((with_reducible refine gC 10 ?_); refine gL (some 56) Tryz.func10 #[.slice Ao34 y281.length co34, .int .i64 9] ?_; (with_reducible refine (syn_Parse.calls _ _ y281 9 t284 t285 t286 _ ?side1 ?side2 A21.out).mono ?_); (case side1 => exact cQ HO283); (case side2 => exact (Kd.R_reads' HO283.out).2.1); rintro e w35 ⟨v287, rfl, ho0, hb⟩; refine ⟨_, rfl, ?_⟩; have HO288 := aM (Kd.N_lower (Kd.N_mono (ok' := fun k_ => some k_ ≠ (.slice Ao34 y281.length co34 : Value).ownBlock) (Kd.R_N (Kd.R_bound ho0)) (fun k_ hk_ => (Kd.fresh' (Kd.R_lt (mQ HO283)) k_ hk_.2.1))) (below_size bQ)); replace HO283 := rK HO283 hb; replace HB := sB hb; clear hb ho0; have q36 : ((ji22) : Int) ≤ ((y281.length : Int) : Int) := of_decide_eq_true hQ; obtain ⟨i036, hi036, _, hsz36, _⟩ := info_parts info40; have hroom36 : y281.length ≤ co34 := (Kd.R_reads' HO283.out).2.1; have hC36 : Kd.F k40 _ _ Ao34 y281.length y281 := (Kd.V_at (base := w.heap.size) (Kd.R_V (Kd.R_apart' (HO283.out) (Kd.N_typed HO288.out) (by decide)))).2.2; have hcut36 := cut_to (P := Tryz.prog) 22 40 .i64 Tryz.underlying22 hi036 Ao34 y281.length co34 (ji22) (of_decide_eq_true hQ) q36 hroom36; have hr36 := Kd.F_take (m := ((ji22) : Int).toNat) hC36 (by omega); have hy36 : y289.length = ((ji22) : Int).toNat := (by rw [Ny289.out, List.length_take]; omega); rw [← Ny289.out] at hr36; rw [← hy36] at hcut36; have HO293 := aM (show Kd.V k40 40 _ w.heap.size _ (.slice Ao34 y289.length co34) y289 from Kd.V_mk (by omega) hr36); have HC293 := aM (show y289.length ≤ co34 from by omega); clear hr36 hC36 hroom36 hi036 hsz36; have KY36 := aM hy36; clear hy36; replace q36 := eq_true q36) | ((with_reducible refine gC 10 ?_); refine gL (some 66) Tryz.func10 #[.slice Ao34 y289.length co34, .int .i64 9] ?_; (with_reducible refine (syn_Parse.calls _ _ y289 9 t294 t295 t296 _ ?side1 ?side2 A25.out).mono ?_); (case side1 => repeat (first | exact (Kd.V_reads' HO293.out).2.2 | (with_reducible first|refine Kd.C_alloc ?_ _|refine Kd.C_drewN ?_ _|refine Kd.C_drew ?_))); (case side2 => exact (Kd.V_reads' HO293.out).2.1); rintro e w37 ⟨v297, rfl, ho0, hb⟩; refine ⟨_, rfl, ?_⟩; replace HO293 := aM (Kd.V_elder' (by (with_reducible repeat (first | apply Kd.V_alloc | apply Kd.V_drewN | apply Kd.V_drew)); exact HO293.out) (Kd.N_base (Kd.R_N (Kd.R_bound ho0))) hb); have HO298 := aM (Kd.N_lower (Kd.N_mono (ok' := fun k_ => some k_ ≠ (.slice Ao34 y281.length co34 : Value).ownBlock ∧ some k_ ≠ (v287 : Value).ownBlock) (Kd.R_N (Kd.R_bound ho0)) (fun k_ hk_ => ⟨(Kd.fresh' (Kd.R_lt (mQ HO283)) k_ hk_.2.1), (Kd.fresh' (Kd.N_lt (by (with_reducible repeat (first | apply Kd.N_alloc | apply Kd.N_drewN | apply Kd.N_drew)); exact HO288.out)) k_ hk_.2.1)⟩)) (below_size bQ)); replace HO283 := rK HO283 hb; replace HO288 := aM (Kd.N_elder' (by (with_reducible repeat (first | apply Kd.N_alloc | apply Kd.N_drewN | apply Kd.N_drew)); exact HO288.out) (Kd.N_base (Kd.R_N (Kd.R_bound ho0))) hb); replace HB := sB hb; clear hb ho0; obtain ⟨Ao38, co38, eo38⟩ := Kd.N_slice HO288.out; subst eo38; obtain ⟨Ao39, co39, eo39⟩ := Kd.N_slice HO298.out; subst eo39) | (go_at_call 13; (with_reducible refine (hornbooklaw05_items.calls k1 (fun k_ => (some k_ ≠ (.slice Ao34 y281.length co34 : Value).ownBlock ∧ some k_ ≠ (.slice Ao39 t294.length co39 : Value).ownBlock)) _ _ t284 t299 _ ?side1 A31.out).mono ?_); (case side1 => exact Kd.N_V (HO288.out)); rintro e w40 ⟨v300, rfl, ho0, hb⟩; replace HO288 := aM (Kd.N_elder' (by (with_reducible repeat (first | apply Kd.N_alloc | apply Kd.N_drewN | apply Kd.N_drew)); exact HO288.out) (Kd.N_base ho0) hb); replace HO293 := aM (Kd.V_elder' (by (with_reducible repeat (first | apply Kd.V_alloc | apply Kd.V_drewN | apply Kd.V_drew)); exact HO293.out) (Kd.N_base ho0) hb); have HO301 := aM (Kd.N_lower (Kd.N_mono (ok' := fun k_ => some k_ ≠ (.slice Ao34 y281.length co34 : Value).ownBlock ∧ some k_ ≠ (.slice Ao39 t294.length co39 : Value).ownBlock) ho0 (fun k_ hk_ => ⟨Or.elim hk_ (fun hs_ => hs_.1) (fun hn_ => (Kd.fresh' (Kd.R_lt (mQ HO283)) k_ hn_)), Or.elim hk_ (fun hs_ => hs_.2) (fun hn_ => (Kd.fresh' (Kd.N_lt (by (with_reducible repeat (first | apply Kd.N_alloc | apply Kd.N_drewN | apply Kd.N_drew)); exact HO298.out)) k_ hn_))⟩)) (below_size bQ)); replace HO283 := rK HO283 hb; replace HO298 := aM (Kd.N_elder' (by (with_reducible repeat (first | apply Kd.N_alloc | apply Kd.N_drewN | apply Kd.N_drew)); exact HO298.out) (Kd.N_base ho0) hb); replace HB := sB hb; clear hb ho0; obtain ⟨Ao41, co41, eo41⟩ := Kd.N_slice HO301.out; subst eo41) | (go_at_call 12; (refine (hornbookref05_Same.calls _ _ t299 _ _ ([] : List (S69)) t302 _ ?side1 ?side2 ?side3 ?side4 A32.out).mono ?_); (case side1 => repeat (first | exact (Kd.N_reads' HO301.out).2.2 | (with_reducible first|refine Kd.C_alloc ?_ _|refine Kd.C_drewN ?_ _|refine Kd.C_drew ?_))); (case side2 => exact (Kd.N_reads' HO301.out).2.1); (case side3 => exact Kd.C_nil _ _); (case side4 => exact Nat.le_refl _); rintro e w42 ⟨rfl, hb⟩; replace HO283 := rK HO283 hb; replace HO288 := aM (Kd.N_below (by (with_reducible repeat (first | apply Kd.N_alloc | apply Kd.N_drewN | apply Kd.N_drew)); exact HO288.out) hb); replace HO293 := aM (Kd.V_below (by (with_reducible repeat (first | apply Kd.V_alloc | apply Kd.V_drewN | apply Kd.V_drew)); exact HO293.out) hb); replace HO298 := aM (Kd.N_below (by (with_reducible repeat (first | apply Kd.N_alloc | apply Kd.N_drewN | apply Kd.N_drew)); exact HO298.out) hb); replace HO301 := aM (Kd.N_below (by (with_reducible repeat (first | apply Kd.N_alloc | apply Kd.N_drewN | apply Kd.N_drew)); exact HO301.out) hb); replace HB := sB hb; clear hb))
   go_ret
   exact ⟨by first | rfl | (simp [errW_none, errW_some] <;> rfl) | (simp only [← hji6, ← hji22]; first | rfl | (simp [errW_none, errW_some] <;> rfl)) | (simp [*, errW_none, errW_some] <;> rfl), bQ⟩
/-- THE ONE PURE STATEMENT of hornbooklaw05_SynDeep: yours. -/
def hornbooklaw05_SynDeep.Pure : Prop := ∀ (l0 : List (S40)) (a1 : Int), l0.length ≤ maxLen → l0.length * 40 ≤ 140737488351232 → (∀ z ∈ l0, ((Lit.int .i64 z.f0).wf = true ∧ (Lit.int .i64 z.f1).wf = true ∧ (Lit.int .i64 z.f2).wf = true ∧ z.f3.size ≤ 140737488351232)) → (Lit.int .i64 a1).wf = true → ∃ k, hornbooklaw05_SynDeep.f k l0 a1 = some true
theorem hornbooklaw05_SynDeep.walk (P : hornbooklaw05_SynDeep.Pure) (a0 : Option Addr) (cap0 : Nat) (l0 : List (S40)) (a1 : Int) (w : World) (hr0 : Kd.C k40 w a0 l0.length l0) (hc0 : l0.length ≤ cap0) (w0 : l0.length ≤ maxLen) (y0 : l0.length * 40 ≤ 140737488351232) (q0 : ∀ z ∈ l0, ((Lit.int .i64 z.f0).wf = true ∧ (Lit.int .i64 z.f1).wf = true ∧ (Lit.int .i64 z.f2).wf = true ∧ z.f3.size ≤ 140737488351232)) (w1 : (Lit.int .i64 a1).wf = true)(hG : GW w) :
  Calls Tryz.prog 7 #[.slice a0 l0.length cap0, .int .i64 a1] w fun e w' => e = .returned (.bool true) ∧ Below w.heap.size w w' := by
 obtain ⟨k, h⟩ := P l0 a1 w0 y0 q0 w1
 refine (hornbooklaw05_SynDeep.calls k _ _ l0 a1 true w hG hr0 hc0 h rfl).mono ?_
 rintro e w' ⟨rfl, hd⟩
 exact ⟨rfl, hd⟩
end Go.Proofs.YtjplnhdplpiogaaGreatDoor.M
end
section
namespace Go.Proofs.YtjplnhdplpiogaaGreatDoor.M
open Go Go.RowKit
variable {H : Type} {enc : TypeId × Value → H}
theorem returns_both {a : Assume} {C : Checked} {os : Os} {f : FuncId} {fn : Func} {s : ChangeSpec} {conds : List PathCond} {apart fresh handsOn again : Bool} {X : World → Array Value → Prop}
  (hX : ∀ (w w' : World) (args : Array Value), w.heap = w'.heap → X w args → X w' args)
  (own : ownKnob C.prog.godebug = none) (started : os.Started) (noInit : C.prog.inits.idxOf? f = none) (hfn : C.prog.funcs[f]? = some fn)
  (witness : ∃ (w : World) (tape : Tape) (i : Input), w.os = os ∧ (w.forCall tape i).Shaped C.prog ∧ i.vars = [] ∧ Input.okWide C.prog (w.forCall tape i) .any w.heap.size f i ∧
   ((s.pre enc C.prog fn conds apart (w.forCall tape i).memory i.args ∧ X (w.forCall tape i).memory i.args) ∧ sizedMet enc C.prog fn (OpenSpec.ofChange s) apart (w.forCall tape i).memory i.args) ∧ a.holds C.prog (lone (Frame.enter C.prog f i.args .normal) [] (w.forCall tape i)))
  (contract : ∀ (W : World) (base : Nat) (args : Array Value) (ds gs : List (DataW H)) (before : List MemPlace),
   (∀ (j : Nat) t v, fn.params[j]? = some t → args[j]? = some v → Value.okWide C.prog W .any base t v) →
   DataW.Whole enc C.prog fn.params.toList s.vars apart W args.toList ds gs before →
   conds.all (PathCond.test C.prog ⟨fn.params.toList, ds, s.plain.varTypes C.prog, gs⟩) = true →
   (DataW.weightsEach C.prog (fn.params.toList ++ s.plain.varTypes C.prog) (ds ++ gs)).all (· ≤ reachBytes) = true → X W args → W.ShapedOpen C.prog →
   Calls C.prog f args W fun e W' => ∃ v, e = .returned v ∧ s.post enc C.prog fn apart fresh handsOn again W args v W') :
  ReturnsInHanded a C os f .any (fun w args => (s.pre enc C.prog fn conds apart w args ∧ X w args) ∧ sizedMet enc C.prog fn (OpenSpec.ofChange s) apart w args) (s.post enc C.prog fn apart fresh handsOn again) := by
 refine returnsInHanded_of_calls own started noInit witness ?_
 intro w tape i _ hsh _ hok hpre hholds
 obtain ⟨_, _, _, fn', hfn', _, _, _, _, hval⟩ := hok
 have e : fn' = fn := Option.some.inj (hfn'.symm.trans hfn)
 subst e
 obtain ⟨⟨⟨ds, gs, before, hw, hc⟩, hx⟩, hz⟩ := hpre
 have hw' := DataW.Whole.of_heap (w' := w.forCall tape i) (by rfl) hw
 refine (contract (w.forCall tape i) w.heap.size i.args ds gs before hval hw' hc (hz.weights hw) (hX _ _ _ (by rfl) hx) hsh).mono fun e W' ⟨v, he, hp⟩ => ?_
 subst he
 exact ChangeSpec.post_blind hp
theorem gw_star : "*" ++ "errors.errorString" = "*errors.errorString" := by decide
theorem gw_row (u : TypeId) (h : Tryz.prog.typeName? 3 u = some "*errors.errorString") : u = 208 :=
 typeName_ptr_named (nm := "errors.errorString") (by rw [gw_star]; kernel_rfl) (by kernel_rfl) (by decide) u (by rw [gw_star]; exact h)
/-- Out of a row's 'laid', from the two sentinels on, and the world's shape. -/
theorem GW.of_mets {r1 r2 : List (String × DataW Unit)} {t1 t2 : List UInt8} {W : World}
  (h1 : laidMet Tryz.prog (("strconv.ErrRange", .iface "*errors.errorString" (.ptr (.agg [.lit (.string t1)]))) :: r1) W)
  (h2 : laidMet Tryz.prog (("strconv.ErrSyntax", .iface "*errors.errorString" (.ptr (.agg [.lit (.string t2)]))) :: r2) W)
  {r4 : List (String × DataW Unit)} (h4 : laidMet Tryz.prog (("internal/strconv.uint64pow10", Rows.laid_internal_strconv_uint64pow10) :: r4) W)
  (hsh : W.ShapedOpen Tryz.prog) : GW W := by
 obtain ⟨a0, s0, hv0, -, -, -⟩ := laid_sentinel h1 (g := 0) (ti := 112) (by kernel_rfl) (by kernel_rfl) Tryz.underlying112 gw_row Tryz.underlying208 Tryz.underlying210 rfl rfl Tryz.underlying9 (by kernel_rfl) (by kernel_rfl)
 obtain ⟨a1, s1, hv1, -, -, -⟩ := laid_sentinel h2 (g := 2) (ti := 112) (by kernel_rfl) (by kernel_rfl) Tryz.underlying112 gw_row Tryz.underlying208 Tryz.underlying210 rfl rfl Tryz.underlying9 (by kernel_rfl) (by kernel_rfl)
 have c0 := World.var?_cell (P := Tryz.prog) (g := 0) (by kernel_rfl) hv0 0
 have c1 := World.var?_cell (P := Tryz.prog) (g := 2) (by kernel_rfl) hv1 0
 obtain ⟨m, hm⟩ := cell_of_shapedOpen_int (P := Tryz.prog) (g := 1) (t := 3) (zero := #[.int .i64 0]) hsh (of_decide_eq_true (by kernel_rfl)) (by kernel_rfl) rfl (by kernel_rfl) (by kernel_rfl) Tryz.underlying3
 have e4 : (Rows.laid_internal_strconv_uint64pow10 : DataW Unit) = Lib.tabData .u64 Lib.pow10Tab := by kernel_rfl
 rw [e4] at h4
 have hpow : Lib.TabIs Tryz.prog W "internal/strconv.uint64pow10" .u64 Lib.pow10Tab := Lib.tabIs_of_head (g := 5) (by kernel_rfl) (by kernel_rfl) Tryz.underlying223 Tryz.underlying178 (by kernel_rfl) (by kernel_rfl) h4
 exact {
  range := ⟨a0, by simpa using c0⟩
  syn := ⟨a1, by simpa using c1⟩
  max := ⟨m, hm⟩
  pow := hpow
 }
end Go.Proofs.YtjplnhdplpiogaaGreatDoor.M
end
section
namespace Go.Proofs.YtjplnhdplpiogaaGreatDoor.M
open Go.RowKit Go.Proofs.YtjplnhdplpiogaaGreatDoorW.PrintWords Go.Proofs.YtjplnhdplpiogaaGreatDoorW.PrintLast Go.Proofs.YtjplnhdplpiogaaGreatDoorW.PrintMore
set_option linter.unusedVariables false
set_option linter.unusedSimpArgs false
set_option maxRecDepth 100000
set_option maxHeartbeats 8000000
theorem awake5_at : hornbooklaw05_awake.f 200 = some true := by decide +kernel
theorem awake5 {k : Nat} (hk : 200 ≤ k) : hornbooklaw05_awake.f k = some true := le_rounds (g := fun k => hornbooklaw05_awake.f k) (fun k => hornbooklaw05_awake.mono k) awake5_at hk
theorem rd40_nat (L : List S40) (i : Nat) (h : i < L.length) : rd_T40 L (i : Int) = L[i] := by simp [rd_T40, h]
theorem items_nil {k : Nat} (hk : 1 ≤ k) : hornbooklaw05_items.f k [] = some [] := by
 obtain ⟨k, rfl⟩ : ∃ m, k = m + 1 := ⟨k - 1, by omega⟩
 rfl
theorem pairs_in (o k : Int) (ho : o = 6 ∨ o = 8 ∨ o = 10) (hk : k < 6) : pairsF [o] k = some [o] := by
 unfold pairsF
 rw [if_neg (by omega), if_neg (by omega)]
theorem pairs_out (o : Int) (ho : o = 6 ∨ o = 8 ∨ o = 10) : pairsF [o] (o + 1) = some [] := by
 unfold pairsF
 rw [if_neg (by omega), if_pos (by omega), if_pos ⟨by simp, by simp⟩]
 rfl
theorem pairs_up (o : Int) (ho : o = 6 ∨ o = 8 ∨ o = 10) : pairsF [] o = some [o] := by
 unfold pairsF
 rw [if_pos ho, if_pos (by decide)]
 rfl
theorem deepIn (L : List S40) (o : Int) (ho : o = 6 ∨ o = 8 ∨ o = 10) (r : Option (Option (List S43))) (e c : Nat) (he : ∀ k, c ≤ k → runF L k (e : Int) [o] [] = r) (hle : e ≤ L.length) : ∀ (d i k : Nat), i + d = e → (∀ j, i ≤ j → j < e → (rd_T40 L (j : Int)).f0 < 6) → d + c ≤ k → runF L k (i : Int) [o] [] = r
 | 0, i, k, hd, hx, hk => by
  obtain rfl : i = e := by omega
  exact he k (by omega)
 | d + 1, i, k, hd, hx, hk => by
  obtain ⟨k, rfl⟩ : ∃ m, k = m + 1 := ⟨k - 1, by omega⟩
  have h6 := hx i (Nat.le_refl _) (by omega)
  rw [runF, if_pos (by omega), if_neg (by simp), pairs_in o _ ho h6, Option.bind_some]
  have := deepIn L o ho r e c he hle d (i + 1) k (by omega) (fun j h1 h2 => hx j (by omega) h2) (by omega)
  rw [show ((i : Int) + 1) = ((i + 1 : Nat) : Int) by omega]
  exact this
theorem deepAll (o : Int) (ho : o = 6 ∨ o = 8 ∨ o = 10) (t u : S40) (ht : t.f0 = o) (hu : u.f0 = o + 1) (m : List S40) (hm : ∀ x ∈ m, x.f0 < 6) : syn_Parse.f (t :: m ++ [u]) 9 = some ([], 9, 0) ∧ syn_Parse.f (t :: m) 9 = some ([], 9, 2) := by
 have first : ∀ (L : List S40) (k : Nat), rd_T40 L 0 = t → 0 < L.length → runF L (k + 1) 0 [] [] = runF L k (1 : Nat) [o] [] := fun L k h0 h1 => by
  rw [runF, if_pos (by omega), h0, ht, if_neg (by omega), pairs_up o ho, Option.bind_some]
  rfl
 constructor
 ·unfold syn_Parse.f
  have hl : (t :: m ++ [u]).length = m.length + 2 := by simp
  have hend : ∀ k, 2 ≤ k → runF (t :: m ++ [u]) k ((m.length + 1 : Nat) : Int) [o] [] = some (some []) := fun k hk => by
   obtain ⟨k, rfl⟩ : ∃ m, k = m + 2 := ⟨k - 2, by omega⟩
   have hr : rd_T40 (t :: m ++ [u]) ((m.length + 1 : Nat) : Int) = u := by rw [rd40_nat _ _ (by omega)]; simp
   rw [runF, if_pos (by rw [hl]; omega), hr, hu, if_neg (by simp), pairs_out o ho, Option.bind_some, runF, if_neg (by rw [hl]; omega), if_pos rfl]
  rw [first _ _ rfl (by omega), deepIn (t :: m ++ [u]) o ho _ (m.length + 1) 2 hend (by omega) m.length 1 _ (by omega) (fun j h1 h2 => by
   rw [rd40_nat _ _ (by omega)]
   have : (t :: m ++ [u])[j]'(by omega) = m[j - 1]'(by omega) := by
    obtain ⟨j, rfl⟩ : ∃ q, j = q + 1 := ⟨j - 1, by omega⟩
    simp [List.getElem_append, show j < m.length by omega]
   rw [this]
   exact hm _ (List.getElem_mem _)) (by omega)]
  rfl
 ·unfold syn_Parse.f
  have hl : (t :: m).length = m.length + 1 := by simp
  have hend : ∀ k, 1 ≤ k → runF (t :: m) k ((m.length + 1 : Nat) : Int) [o] [] = some none := fun k hk => by
   obtain ⟨k, rfl⟩ : ∃ m, k = m + 1 := ⟨k - 1, by omega⟩
   rw [runF, if_neg (by rw [hl]; omega), if_neg (by simp)]
  rw [first (t :: m) _ rfl (by rw [hl]; omega), hl, deepIn (t :: m) o ho _ (m.length + 1) 1 hend (by omega) m.length 1 _ (by omega) (fun j h1 h2 => by
   rw [rd40_nat _ _ (by omega)]
   have : (t :: m)[j]'(by omega) = m[j - 1]'(by omega) := by
    obtain ⟨j, rfl⟩ : ∃ q, j = q + 1 := ⟨j - 1, by omega⟩
    simp
   rw [this]
   exact hm _ (List.getElem_mem _)) (by omega)]
  rfl
theorem deep_end (k : Nat) (hk : 1 ≤ k) (o : Int) (ho : o = 6 ∨ o = 8 ∨ o = 10) (l0 : List S40) (hl : l0.length ≤ 200) (t : S40) (ht : t.f0 = o) : ∀ (d i q : Nat) (m : List S40), i + d = l0.length → m.length ≤ i → (∀ x ∈ m, x.f0 < 6) → d + 2 ≤ q → hornbooklaw05_SynDeep.l0 q l0 true o (t :: m) (i : Int) = some true
 | 0, i, q, m, hd, hmi, hm, hq => by
  obtain ⟨q, rfl⟩ : ∃ m, q = m + 2 := ⟨q - 2, by omega⟩
  have hw1 : wrap64 (o + 1) = o + 1 := by unfold wrap64; omega
  obtain ⟨h1, h2⟩ := deepAll o ho t ⟨o + 1, 0, 0, ⟨#[]⟩⟩ ht rfl m hm
  have hlen : (t :: m ++ [(⟨o + 1, 0, 0, ⟨#[]⟩⟩ : S40)]).length = m.length + 2 := by simp
  have hw2 : wrap64 (((t :: m ++ [(⟨o + 1, 0, 0, ⟨#[]⟩⟩ : S40)]).length : Int) - 1) = ((m.length + 1 : Nat) : Int) := by rw [hlen]; unfold wrap64; omega
  have htk : (t :: m ++ [(⟨o + 1, 0, 0, ⟨#[]⟩⟩ : S40)]).take (((m.length + 1 : Nat) : Int)).toNat = t :: m := by rw [Int.toNat_natCast, show m.length + 1 = (t :: m).length from rfl]; exact List.take_left
  rw [hornbooklaw05_SynDeep.l0, if_neg (by omega), if_pos (by simp; omega), Option.bind_some, hw1, h1, Option.bind_some, hw2, if_pos (by omega), if_pos (by rw [hlen]; omega), htk, h2, Option.bind_some]
  dsimp only
  rw [if_pos rfl, if_pos rfl, if_pos (show ((([] : List S43).length : Nat) : Int) = 0 from rfl), if_pos rfl, if_pos (show ((([] : List S43).length : Nat) : Int) = 0 from rfl), items_nil (by omega)]
  rfl
 | d + 1, i, q, m, hd, hmi, hm, hq => by
  obtain ⟨q, rfl⟩ : ∃ m, q = m + 1 := ⟨q - 1, by omega⟩
  rw [hornbooklaw05_SynDeep.l0, if_pos (by omega), if_pos (by omega), wrap_small (by omega) (by omega), show ((i : Int) + 1) = ((i + 1 : Nat) : Int) by omega]
  by_cases h6 : (rd_T40 l0 (i : Int)).f0 < 6
  ·rw [if_pos h6, if_pos (by simp; omega)]
   exact deep_end k hk o ho l0 hl t ht d (i + 1) q (m ++ [_]) (by omega) (by simp; omega) (fun x hx => by
    rcases List.mem_append.mp hx with h | h
    ·exact hm x h
    ·rw [List.mem_singleton] at h; subst h; exact h6) (by omega)
  ·rw [if_neg h6]
   exact deep_end k hk o ho l0 hl t ht d (i + 1) q m (by omega) (by omega) hm (by omega)
theorem SynDeep : hornbooklaw05_SynDeep.Pure := by
 intro l0 a1 _ _ _ _
 refine ⟨400, ?_⟩
 unfold hornbooklaw05_SynDeep.f
 rw [awake5 (by decide), Option.bind_some]
 by_cases hl : (l0.length : Int) > 200
 ·rw [if_pos hl]
 ·rw [if_neg hl, Option.bind_some, and_mask a1 16 (by decide) 65535 (by decide)]
  obtain ⟨j, hj, h0, h3⟩ : ∃ j : Int, Int.tmod (a1 % 2 ^ 16) 3 = j ∧ 0 ≤ j ∧ j < 3 := by
   have h0 : 0 ≤ a1 % 2 ^ 16 := Int.emod_nonneg _ (by decide)
   refine ⟨_, rfl, Int.tmod_nonneg _ h0, ?_⟩
   rw [Int.tmod_eq_emod_of_nonneg h0]
   exact Int.emod_lt_of_pos _ (by decide)
  rw [hj, if_pos h0, if_pos (by simpa using h3)]
  have ho : rd [6, 8, 10] j = 6 ∨ rd [6, 8, 10] j = 8 ∨ rd [6, 8, 10] j = 10 := by
   have : j = 0 ∨ j = 1 ∨ j = 2 := by omega
   rcases this with rfl | rfl | rfl
   ·exact .inl rfl
   ·exact .inr (.inl rfl)
   ·exact .inr (.inr rfl)
  exact deep_end 1 (by decide) _ ho l0 (by omega) _ rfl l0.length 0 400 [] (by omega) (by simp) (fun x h => by cases h) (by omega)
end Go.Proofs.YtjplnhdplpiogaaGreatDoor.M
end
section
namespace Go.Proofs.YtjplnhdplpiogaaGreatDoor.M
open Go Go.ChangeShapes Go.WideShapes Go.RowKit Go.Proofs.YtjplnhdplpiogaaGreatDoorW.PrintWords
set_option linter.unusedVariables false
theorem weights_all {H : Type} {P : Program} {e : TypeId} {l : List (DataW H)} {y : DataW H} (hy : y ∈ l) {q : Nat} (hq : q ∈ DataW.weights P e y) : q ∈ DataW.weightsAll P e l := by
 induction l with
 | nil => cases hy
 | cons z r ih =>
  rw [DataW.weightsAll, List.mem_append]
  rcases List.mem_cons.1 hy with rfl | h
  ·exact .inl hq
  ·exact .inr (ih h)
section
variable {H α : Type} {enc : TypeId × Value → H} {P : Program} {W : World} {base : Nat} {spare : Nat → Bool} {held : Bool} {t e : TypeId}
/-- A slice's one cell, opened: its elements by their kind. -/
theorem open_cells (d : Kd α) (Q : α → Prop) (hu : P.underlying t = some (.slice e)) (hc : P.cellsOf e = d.sz)
  (he : ∀ n cs y, DataW.trod enc P W base spare held n e cs = some y → (∀ q ∈ DataW.weights P e y.1, q ≤ reachBytes) → ∃ x : α, d.K W x cs ∧ Q x)
  {n : Nat} {cs : List Value} {y : DataW H × List MemPlace} (h : DataW.trod enc P W base spare held n t cs = some y) (hw : ∀ q ∈ DataW.weights P t y.1, q ≤ reachBytes) :
  ∃ (a : Option Addr) (len cap : Nat) (l : List α), cs = [.slice a len cap] ∧ l.length = len ∧ l.length ≤ cap ∧ l.length ≤ maxLen ∧ d.C W a l.length l ∧ l.length * P.bytesOf e ≤ reachBytes ∧ ∀ x ∈ l, Q x := by
 rcases Go.Deep.open_slice hu h with ⟨rfl, rfl⟩ | ⟨a, len, cap, m, n', D, Pl, rfl, hb, hl, hm, hmm, rfl, hx⟩
 ·exact ⟨none, 0, 0, [], rfl, rfl, Nat.le_refl _, Nat.zero_le _, Kd.C_nil _ _, by simp, fun x h => by cases h⟩
 have hle : len ≤ m := by
  rw [hmm]
  split <;> omega
 have hws : ∀ i, i < len → ∀ q ∈ DataW.weights P e (D i), q ≤ reachBytes := by
  intro i hi q hq
  refine hw q ?_
  show q ∈ DataW.weights P t (DataW.slice _ _)
  rw [DataW.weights, hu]
  exact List.mem_cons_of_mem _ (List.mem_append_left _ (weights_all (List.mem_map.2 ⟨i, List.mem_range.2 hi, rfl⟩) hq))
 have each : ∀ i, i < len → ∃ x : α, (∃ cs', W.cells? base (a.add (i * P.cellsOf e)) (P.cellsOf e) = some cs' ∧ d.K W x cs') ∧ Q x := by
  intro i hi
  obtain ⟨cs', h1, h2⟩ := hx i (Nat.lt_of_lt_of_le hi hle)
  obtain ⟨x, h3, h4⟩ := he _ _ _ h2 (hws i hi)
  exact ⟨x, ⟨cs', h1, h3⟩, h4⟩
 have build : ∀ k, k ≤ len → ∃ l : List α, l.length = k ∧ ∀ i x, l[i]? = some x → (∃ cs', W.cells? base (a.add (i * P.cellsOf e)) (P.cellsOf e) = some cs' ∧ d.K W x cs') ∧ Q x := by
  intro k
  induction k with
  | zero => exact fun _ => ⟨[], rfl, fun i x h => by simp at h⟩
  | succ k ih =>
   intro hk
   obtain ⟨l, hl1, hl2⟩ := ih (by omega)
   obtain ⟨x, hx1⟩ := each k (by omega)
   refine ⟨l ++ [x], by simp [hl1], fun i z hz => ?_⟩
   rcases Nat.lt_or_ge i l.length with h0 | h0
   ·rw [List.getElem?_append_left h0] at hz
    exact hl2 i z hz
   ·rw [List.getElem?_append_right h0] at hz
    have h1 : i - l.length < 1 := by
     have := (List.getElem?_eq_some_iff.1 hz).1
     simpa using this
    have h2 : i = k := by omega
    subst h2
    have h3 : x = z := by
     rw [show i - l.length = 0 by omega] at hz
     simpa using hz
    subst h3
    exact hx1
 obtain ⟨l, hl1, hl2⟩ := build len (Nat.le_refl _)
 subst hl1
 refine ⟨some a, l.length, cap, l, rfl, rfl, hl, Nat.le_trans hl hm, ⟨rfl, Nat.le_trans (Nat.le_trans hl hm) (by decide), fun _ => ⟨a, rfl, fun j p hj => ?_⟩⟩, ?_, fun x hx' => ?_⟩
 ·obtain ⟨⟨cs', h1, h2⟩, _⟩ := hl2 j p hj
  rw [hc] at h1
  obtain ⟨_, h3, h4⟩ := World.cells?_some h1
  refine ⟨cs', h3, h2, fun i u hi => ?_⟩
  have h5 : i < d.sz := by
   have := (List.getElem?_eq_some_iff.1 hi).1
   omega
  rw [← Go.Deep.add_add, h4 i h5, hi]
 ·refine Nat.le_trans ?_ (hw ((((List.range l.length).map D).length + ((List.range (m - l.length)).map fun j => D (l.length + j)).length) * P.bytesOf e) ?_)
  ·refine Nat.mul_le_mul_right _ ?_
   simp
  ·show _ ∈ DataW.weights P t (DataW.slice _ _)
   rw [DataW.weights, hu]
   exact List.mem_cons_self
 ·obtain ⟨i, hi⟩ := List.getElem?_of_mem hx'
  exact (hl2 i x hi).2
/-- .. as an argument of a law. -/
theorem open_rows (d : Kd α) (Q : α → Prop) {a : Option Addr} {len cap : Nat} {dt : DataW H} {ps : List MemPlace} {ts : List TypeId} {ds : List (DataW H)} {j : Nat}
  (hsz : (DataW.weightsEach P ts ds).all (· ≤ reachBytes) = true) (ht : ts[j]? = some t) (hd : ds[j]? = some dt) (hu : P.underlying t = some (.slice e)) (hc : P.cellsOf e = d.sz) {B : Nat} (hB : P.bytesOf e = B)
  (he : ∀ n cs y, DataW.trod enc P W base spare held n e cs = some y → (∀ q ∈ DataW.weights P e y.1, q ≤ reachBytes) → ∃ x : α, d.K W x cs ∧ Q x)
  (h : DataW.Trod enc P W base spare held t (.slice a len cap) dt ps) :
  ∃ l : List α, l.length = len ∧ l.length ≤ cap ∧ l.length ≤ maxLen ∧ d.C W a l.length l ∧ l.length * B ≤ 140737488351232 ∧ ∀ x ∈ l, Q x := by
 obtain ⟨fuel, hf⟩ := h
 obtain ⟨a', len', cap', l, hcs, h1, h2, h3, h4, h5, h6⟩ := open_cells d Q hu hc he hf (fun q hq => by
  have := List.all_eq_true.1 hsz _ (DataW.weights_mem_each ht hd q hq)
  simpa using this)
 simp [Value.cells] at hcs
 obtain ⟨rfl, rfl, rfl⟩ := hcs
 rw [hB] at h5
 exact ⟨l, h1, h2, h3, h4, h5, h6⟩
theorem el_string (he : P.underlying e = some .string) : ∀ n cs (y : DataW H × List MemPlace), DataW.trod enc P W base spare held n e cs = some y → (∀ q ∈ DataW.weights P e y.1, q ≤ reachBytes) → ∃ x : ByteArray, Kd.string.K W x cs ∧ x.size ≤ 140737488351232 := by
 intro n cs y h hw
 obtain ⟨s, rfl, rfl, hs⟩ := DataW.trod_string he h
 refine ⟨s, rfl, ?_⟩
 have := hw s.data.toList.length (by simp [DataW.weights])
 rwa [data_length] at this
theorem el_int {k : IntKind} (he : P.underlying e = some (.int k)) : ∀ n cs (y : DataW H × List MemPlace), DataW.trod enc P W base spare held n e cs = some y → (∀ q ∈ DataW.weights P e y.1, q ≤ reachBytes) → ∃ x : Int, (Kd.int k).K W x cs ∧ (Lit.int k x).wf = true := by
 intro n cs y h hw
 obtain ⟨s, rfl, rfl, hs⟩ := DataW.trod_int he h
 exact ⟨s, rfl, hs⟩
/-- A struct: fields are opened one by one; a field's cells and weights. -/
theorem struct_len {fs : Array Field} {n : Nat} {cs : List Value} {y : DataW H × List MemPlace} (ht : P.underlying t = some (.struct fs)) (h : DataW.trod enc P W base spare held n t cs = some y) {c : Nat} (hc : P.cellsOf t = c) : cs.length = c := by
 obtain ⟨xs, n', _, rfl, hl, hlen, hf⟩ := DataW.trod_struct ht h
 rw [hl, hc]
theorem struct_field {fs : Array Field} {n : Nat} {cs : List Value} {y : DataW H × List MemPlace} (ht : P.underlying t = some (.struct fs)) (h : DataW.trod enc P W base spare held n t cs = some y) (hw : ∀ q ∈ DataW.weights P t y.1, q ≤ reachBytes)
  (i : Nat) (f : Field) (hi : fs[i]? = some f) (ft : TypeId) (o s : Nat) (hft : f.type = ft) (ho : f.offset = o) (hs : P.cellsOf ft = s) :
  ∃ n' y', DataW.trod enc P W base spare held n' ft ((cs.drop o).take s) = some y' ∧ ∀ q ∈ DataW.weights P ft y'.1, q ≤ reachBytes := by
 obtain ⟨xs, n', _, rfl, hl, hlen, hf⟩ := DataW.trod_struct ht h
 have h1 := hf i f hi
 have h2 : i < xs.length := by
  rw [hlen]
  exact (Array.getElem?_eq_some_iff.1 hi).1
 rw [List.getElem?_eq_getElem h2, hft, ho, hs] at h1
 refine ⟨n', _, h1, fun q hq => hw q ?_⟩
 show q ∈ DataW.weights P t (DataW.agg _)
 rw [DataW.weights, ht]
 refine DataW.weights_mem_each (j := i) (t := ft) (d := xs[i].1) ?_ ?_ q hq
 ·rw [List.getElem?_map, Array.getElem?_toList, hi]
  exact congrArg some hft
 ·rw [List.getElem?_map, List.getElem?_eq_getElem h2]
  rfl
end
end Go.Proofs.YtjplnhdplpiogaaGreatDoor.M
end
section
/- Of any tokens and any kind, the law SynDeep of hornbooklaw05 answers true: any items within brackets are none, if they may stand there at all; brackets of each kind are closed in order. No condition beside what the row states. -/
namespace Go.Proofs.YtjplnhdplpiogaaGreatDoor.synDeep
open Go Go.ChangeShapes Go.WideShapes Go.ChangeAt Go.RowKit
open Go.ChangeMaps (open_string shut_string)
set_option linter.unusedVariables false
open Go.Proofs.YtjplnhdplpiogaaGreatDoorW.PrintWords
theorem own : ownKnob Tryz.prog.godebug = none := by kernel_rfl
theorem laidOut : laidOutB Tryz.prog = true := by kernel_rfl
theorem el_S40 {H : Type} {enc : TypeId × Value → H} {W : World} {base : Nat} {spare : Nat → Bool} {held : Bool} : ∀ n cs (y : DataW H × List MemPlace), DataW.trod enc Tryz.prog W base spare held n 40 cs = some y → (∀ q ∈ DataW.weights Tryz.prog 40 y.1, q ≤ reachBytes) → ∃ x : M.S40, M.k40.K W x cs ∧ ((Lit.int .i64 x.f0).wf = true ∧ (Lit.int .i64 x.f1).wf = true ∧ (Lit.int .i64 x.f2).wf = true ∧ x.f3.size ≤ 140737488351232) := by
 intro n cs y h hw
 have hl := M.struct_len Tryz.underlying40 h (c := 4) (by kernel_rfl)
 obtain ⟨n0, y0, h0, w0⟩ := M.struct_field Tryz.underlying40 h hw 0 _ rfl 3 0 1 rfl rfl (by kernel_rfl)
 obtain ⟨x0, kx0, q0⟩ := (M.el_int Tryz.underlying3) _ _ _ h0 w0
 obtain ⟨n1, y1, h1, w1⟩ := M.struct_field Tryz.underlying40 h hw 1 _ rfl 3 1 1 rfl rfl (by kernel_rfl)
 obtain ⟨x1, kx1, q1⟩ := (M.el_int Tryz.underlying3) _ _ _ h1 w1
 obtain ⟨n2, y2, h2, w2⟩ := M.struct_field Tryz.underlying40 h hw 2 _ rfl 3 2 1 rfl rfl (by kernel_rfl)
 obtain ⟨x2, kx2, q2⟩ := (M.el_int Tryz.underlying3) _ _ _ h2 w2
 obtain ⟨n3, y3, h3, w3⟩ := M.struct_field Tryz.underlying40 h hw 3 _ rfl 9 3 1 rfl rfl (by kernel_rfl)
 obtain ⟨x3, kx3, q3⟩ := (M.el_string Tryz.underlying9) _ _ _ h3 w3
 have hcs : cs = (cs.drop 0).take 1 ++ ((cs.drop 1).take 1 ++ ((cs.drop 2).take 1 ++ ((cs.drop 3).take 1))) := by
  match cs, hl with
  | [c0, c1, c2, c3], _ => rfl
 exact ⟨⟨x0, x1, x2, x3⟩, ⟨_, _, hcs, kx0, _, _, rfl, kx1, _, _, rfl, kx2, kx3⟩, q0, q1, q2, q3⟩
set_option maxRecDepth 100000 in
theorem lifted (os : Os) (started : os.Started) (H : Type) (enc : TypeId × Value → H) :
  ReturnsInHanded {} Tryz.checked os 7 .any (fun w args => (Rows.synDeepSpec.pre enc Tryz.prog Tryz.f7 Rows.synDeepRow.domain false w args ∧ laidMetH Tryz.prog Rows.synDeepRow.laid w) ∧ sizedMet enc Tryz.prog Tryz.f7 (OpenSpec.ofChange Rows.synDeepSpec) false w args)
   (Rows.synDeepSpec.post enc Tryz.prog Tryz.f7 false true false false) := by
 refine M.returns_both (C := Tryz.checked) (X := fun w _ => laidMetH Tryz.prog Rows.synDeepRow.laid w) (fun _ _ _ hh h => h.of_heap hh) own started (by kernel_rfl) Tryz.func7
  (ChangeSpec.witness_shaped (enc := enc) (C := Tryz.checked) (os := os) (X := fun w _ => laidMetH Tryz.prog Rows.synDeepRow.laid w) false (World.laidAll Tryz.prog os Rows.synDeepRow.laid) #[.slice none 0 0, .int .i64 0] 8 (World.laidAll_os _ _ _)
   (World.shaped_of_ZipB (by kernel_rfl) (by kernel_rfl)) (by kernel_rfl) (by kernel_rfl) (by kernel_rfl)
   (by rw [MakeChecks.laidMetH_plain _ _ _ (by kernel_rfl)]; exact laidMet_laidAll _ (by kernel_rfl) (by kernel_rfl))) ?_
 intro W base args ds gs before hval0 hW hcnd hsz0 hL hshape
 have hsz : (DataW.weightsEach Tryz.prog (Tryz.f7.params.toList ++ Rows.synDeepSpec.plain.varTypes Tryz.prog) (ds ++ gs)).all (· ≤ reachBytes) = true := hsz0
 have hval : ∀ (j : Nat) t v, Tryz.f7.params[j]? = some t → args[j]? = some v → Value.okWide Tryz.prog W .any base t v := hval0
 have hLp := hL
 rw [MakeChecks.laidMetH_plain _ _ _ (by kernel_rfl)] at hLp
 have hG : M.GW W := M.GW.of_mets (hLp.tail.tail.tail.tail) (hLp.tail.tail.tail.tail.tail) (hLp.tail.tail) hshape
 have hW' := hW
 obtain ⟨p, q, hA0, hV, rfl, hfz, hnd⟩ := hW
 have hA : DataW.TrodAll enc Tryz.prog W 0 (fun _ => true) true Tryz.f7.params.toList args.toList ds p := hA0
 rw [Tryz.params7] at hA hval hsz
 obtain ⟨v0, vs0, d0, ds0, p0, q0, hargs, rfl, rfl, h0, r0⟩ := trodAll_cons hA
 obtain ⟨v1, vs1, d1, ds1, p1, q1, rfl, rfl, rfl, h1, r1⟩ := trodAll_cons r0
 obtain ⟨rfl, rfl, rfl⟩ := trodAll_nil r1
 obtain rfl : args = #[v0, v1] := by cases args; simp_all
 obtain ⟨rfl, rfl⟩ := trodVars_none hV
 obtain ⟨a0, len0, cap0, rfl⟩ := okWide_slice Tryz.underlying22 (hval 0 22 v0 rfl rfl)
 have k0 := h0
 have lt0 : ∀ x ∈ p0, x.block < W.heap.size := by obtain ⟨m, hm⟩ := k0; exact DataW.trod_lt m _ _ _ hm
 obtain ⟨l0, el0, hc0, w0, hr0, y0, q0⟩ := M.open_rows M.k40 (fun z => ((Lit.int .i64 z.f0).wf = true ∧ (Lit.int .i64 z.f1).wf = true ∧ (Lit.int .i64 z.f2).wf = true ∧ z.f3.size ≤ 140737488351232)) hsz (j := 0) (t := 22) rfl rfl Tryz.underlying22 (by kernel_rfl) (B := 40) (by kernel_rfl) el_S40 h0
 subst el0
 obtain ⟨a1, rfl, rfl, rfl, w1⟩ := open_int Tryz.underlying3 (hval 1 3 v1 rfl rfl) h1
 clear hA0 hval0 hsz0 hsz
 refine (M.hornbooklaw05_SynDeep.walk M.SynDeep a0 cap0 l0 a1 W hr0 hc0 w0 y0 q0 w1 hG).mono fun e W' ⟨he, bel⟩ => ?_
 subst he
 exact ⟨_, rfl, _, _, _, [], _, [], hW', trodAll_mk1 (shut_bool Tryz.underlying4 _), (trodAll_cons_mk (Below.trod laidOut (by kernel_rfl) (of_decide_eq_true (by kernel_rfl)) k0 bel lt0) (trodAll_cons_mk (shut_int Tryz.underlying3 w1) trodAll_mk0)), rfl, bel.frame _, fun h => by cases h⟩
theorem over : Rows.synDeepRow.holds Tryz.pinned (OpenSpec.ofChange Rows.synDeepSpec) :=
 OpenClaim.holds_of_wide 7 Tryz.f7 rfl rfl rfl rfl rfl rfl rfl ⟨rfl, rfl, rfl, rfl, rfl⟩ rfl rfl rfl rfl rfl (by kernel_rfl) Tryz.func7 (by kernel_rfl)
  (of_decide_eq_true (by kernel_rfl)) (by unfold Func.isWrapper; first | (rw [if_pos (by decide +kernel)]; kernel_rfl) | (rw [if_neg (by decide +kernel)]; exact ⟨rfl, rfl⟩))
  (fun os started H enc _ => lifted os started H enc)
theorem proved : Rows.SynDeepSaid := over
theorem card : Rows.SynDeepCardSaid :=
 Claim7.holds_tied_plain_at .later [] [.data, .data, .data, .data, .sentinel, .sentinel, .pinned] true (true, "4e55956983aa73bdb1e4d865d2dcbe5cb817dcd8c2639282ff6b9f4ed72e1efa") true
  proved (fun _ h => by cases h) (by kernel_rfl) (fun _ h => by cases h) synDeep_row_tie rfl ⟨rfl, rfl⟩ (by kernel_rfl) rfl
  (fun f fn hf hfn => by
   obtain rfl : f = 7 := Option.some.inj ((show Tryz.prog.funcNamed "hornbook/hornbooklaw05.SynDeep" = some 7 by kernel_rfl).symm.trans hf) |>.symm
   obtain rfl : fn = Tryz.f7 := (Option.some.inj (Tryz.func7.symm.trans hfn)).symm
   exact ⟨by kernel_rfl, fun j t ht => by
    rw [Tryz.params7] at ht
    have hm : t ∈ [22, 3] := by simpa using Array.mem_of_getElem? ht
    have hall : ([22, 3].all fun u => !Tryz.prog.wantsStandIn u) = true := by kernel_rfl
    exact (show Tryz.prog.wantsStandIn t = false by simpa using List.all_eq_true.1 hall t hm)⟩)
  (by kernel_rfl)
end Go.Proofs.YtjplnhdplpiogaaGreatDoor.synDeep
namespace Go.Proofs.YtjplnhdplpiogaaGreatDoor
/-- The statement, under a short name, for the claim. -/
theorem synDeep_holds : Rows.SynDeepCardSaid := synDeep.card
#print axioms synDeep_holds
end Go.Proofs.YtjplnhdplpiogaaGreatDoor
end
