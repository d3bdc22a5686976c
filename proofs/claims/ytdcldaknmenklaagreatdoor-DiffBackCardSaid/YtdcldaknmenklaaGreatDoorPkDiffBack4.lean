/- Packed by this session's program hbpack.py out of this claim's own texts (Q30, Q15, QE0, Q19, Q20, Q21, Q35, Q189, Q187, Q34, Q23, EncD, Q141, Q123, Q124, Q125, Q104, Q74, Q73, EncA, Q76, EncW): the same declarations, without those that the claim does not use. -/
import Derived.Test.YtdcldaknmenklaaGreatDoorPkDiffBack3
import Derived.Lib.AppendIntMem
import Derived.Laws.BitsLemmas
import Derived.Laws.Rows
import Derived.Laws.Tables
import Derived.Lib.AppendZeros
import Derived.Lib.Walk
import Derived.Lib.SliceRun
import Derived.Lib.SlBuf
import Derived.Laws.CopyRow
import Derived.Laws.CopyOwn
import Derived.Lib.Builder
section
/- Laid by this session's program hbprint.py out of the translation: the function hornbook/diff.entries and its contract. -/
namespace Go.Proofs.YtdcldaknmenklaaGreatDoor.M
open Go.RowKit Go.Proofs.YtdcldaknmenklaaGreatDoorW.PrintWords Go.Proofs.YtdcldaknmenklaaGreatDoorW.PrintLast Go.Proofs.YtdcldaknmenklaaGreatDoorW.PrintMore
attribute [local go_sem] max2_int min2_int max_two min_two max_three min_three max_four min_four
set_option linter.unusedVariables false
set_option linter.unusedSimpArgs false
def diff_entries.l0 : Nat → List (S65) → List (S32) → Option ((List (S32)) × (List (S65)))
  | 0, _, _ => none
  | k + 1, x0, x4 => if (x0.length : Int) > 0 then (if 0 < (x0.length : Int) then (if ((rd_T65 x0 0).f0) = 1 then (if x4.length < 4398046511104 then (if 1 ≤ (x0.length : Int) then (diff_entries.l0 k (x0.drop 1) (x4 ++ [(⟨true, (rd_T65 x0 0).f2, (⟨#[]⟩ : ByteArray)⟩ : S32)])) else (none)) else (none)) else (if ((rd_T65 x0 0).f0) = 2 then (if x4.length < 4398046511104 then (if 1 ≤ (x0.length : Int) then (diff_entries.l0 k (x0.drop 1) (x4 ++ [(⟨false, 0, (rd_T65 x0 0).f3⟩ : S32)])) else (none)) else (none)) else (some (x4, x0)))) else (none)) else (some (x4, x0))
def diff_entries.f (k : Nat) (l0 : List (S65)) : Option ((List (S32)) × (List (S65))) := diff_entries.l0 k l0 ([] : List (S32))
theorem diff_entries.mono_l : ∀ k, (∀ y0 y1, LeO (diff_entries.l0 k y0 y1) (diff_entries.l0 (k + 1) y0 y1))
  | 0 => fun _ _ r h => by simp [diff_entries.l0] at h
  | k + 1 => by
    have ih0 := diff_entries.mono_l k
    · intro y0 y1
      unfold diff_entries.l0
      repeat' first
      | (with_reducible exact ih0 _ _)
      | (with_reducible exact LeO.refl _)
      | (with_reducible exact LeO.none _)
      | (with_reducible refine LeO.ite ?_ ?_)
      | (with_reducible refine LeO.bind ?_ (fun _ => ?_))
      | exact ih0 _ _
      | exact LeO.none _
      | refine LeO.ite ?_ ?_
      | refine LeO.bind ?_ (fun _ => ?_)
theorem diff_entries.mono : ∀ a0 k, LeO (diff_entries.f k a0) (diff_entries.f (k + 1) a0) := by
  intro a0 k
  have ih0 := diff_entries.mono_l k
  unfold diff_entries.f
  repeat' first
      | (with_reducible exact ih0 _ _)
      | (with_reducible exact LeO.refl _)
      | (with_reducible exact LeO.none _)
      | (with_reducible refine LeO.ite ?_ ?_)
      | (with_reducible refine LeO.bind ?_ (fun _ => ?_))
      | exact ih0 _ _
      | exact LeO.none _
      | refine LeO.ite ?_ ?_
      | refine LeO.bind ?_ (fun _ => ?_)
set_option maxHeartbeats 8000000 in
set_option maxRecDepth 100000 in
theorem diff_entries.calls (k : Nat) (P0_ : Nat → Prop) (A0 : Option Addr) (c0 : Nat) (l0 : List (S65)) (r1 : List (S32)) (r2 : List (S65)) (w : World) (hs0 : Kd.V k65 65 w w.heap.size (fun k_ => P0_ k_) (.slice A0 l0.length c0) l0) (h : diff_entries.f k l0 = some (r1, r2)) :
    Calls Tryz.prog 30 #[.slice A0 l0.length c0] w fun e w' => ∃ v0_ v1_ : Value, e = .returned (.tuple #[v0_, v1_]) ∧ Kd.R k32 32 w' w.heap.size (fun k_ => (w.heap.size ≤ k_)) v0_ r1 ∧ Kd.V k65 65 w' w.heap.size (fun k_ => (P0_ k_ ∨ w.heap.size ≤ k_) ∧ some k_ ≠ (v0_ : Value).ownBlock) v1_ r2 ∧ Below w.heap.size w w' := by
  have hu65 := Tryz.underlying65
  have hu32 := Tryz.underlying32
  have HO0 := Aside0.mk (show Kd.V k65 65 w w.heap.size (fun k_ => (P0_ k_ ∨ w.heap.size ≤ k_)) (.slice A0 l0.length c0) l0 from Kd.V_mono hs0 (fun k_ hk => .inl hk))
  have HB := Aside0.mk (Below.refl w.heap.size w)
  have H : (diff_entries.l0 k l0 ([] : List (S32))) = some (r1, r2) := h
  clear h
  have H' := Aside0.mk H
  clear H
  go_enter Tryz.func30, Tryz.ntmps30
  go_wp2
  go_loopg [0, 4] k (fun kq v0 v4 w' => ∃ (x0_1 : List (S65)) (x4_1 : List (S32)), Aside0 (diff_entries.l0 kq x0_1 x4_1 = some (r1, r2)) ∧ Aside0 (kq ≤ k) ∧ Aside0 (Kd.V k65 65 w' w.heap.size (fun k_ => (P0_ k_ ∨ w.heap.size ≤ k_) ∧ some k_ ≠ (v4 : Value).ownBlock) v0 x0_1) ∧ Aside0 (Kd.R k32 32 w' w.heap.size (fun k_ => (w.heap.size ≤ k_)) v4 x4_1) ∧ Aside0 (Below w.heap.size w w'))
  case atStart => exact ⟨(l0), (([] : List (S32))), H', ⟨Nat.le_refl _⟩, ⟨by (with_reducible repeat (first | apply Kd.V_alloc | apply Kd.V_drewN | apply Kd.V_drew)); exact Kd.V_mono HO0.out (fun _ hk => ⟨hk, (by simp [Value.ownBlock])⟩)⟩, ⟨by first | exact Kd.R_nil _ _ _ _ _ | exact Kd.N_nil _ _ _ _ _ | exact Kd.V_nil _ _ _ _ _ | exact Kd.Q_nil _ _ _ _ _ | exact Kd.S_nil _ _ _ _ _⟩, ⟨by repeat (first | (with_reducible first | exact HB.out | apply below_alloc | apply pw_below_drewN | apply below_drew1) | exact HB.out)⟩⟩
  case round =>
    clear H'
    obtain ⟨x0_1, x4_1, HA, HK1, HO_0, HO_4, HB⟩ := hrel
    cases gk with
    | zero => exact absurd HA.out (by simp [diff_entries.l0])
    | succ k1 =>
      have H := HA.out
      clear HA
      simp only [diff_entries.l0] at H
      by_cases c2 : (x0_1.length : Int) > 0
      · rw [if_pos c2] at H
        have c2b0 : decide (0 < (x0_1.length : Int)) = true := decide_eq_true c2
        have c2b1 : decide (0 < x0_1.length) = true := decide_eq_true (by omega)
        clear c2
        by_cases c3 : 0 < (x0_1.length : Int)
        · rw [if_pos c3] at H
          have c3b0 : decide (0 < (x0_1.length : Int)) = true := decide_eq_true c3
          have c3b1 : decide (0 < x0_1.length) = true := decide_eq_true (by omega)
          clear c3
          by_cases c4 : ((rd_T65 x0_1 0).f0) = 1
          · rw [if_pos c4] at H
            have c4b0 : (((rd_T65 x0_1 0).f0) == 1) = true := beq_iff_eq.mpr c4
            have c4b1 : (((rd_T65 x0_1 0).f0) != 1) = false := bne_eq_false_iff_eq.mpr c4
            clear c4
            by_cases c5 : x4_1.length < 4398046511104
            · rw [if_pos c5] at H
              have LMc5 := Aside0.mk c5
              clear c5
              obtain ⟨y258, hy258⟩ : ∃ y_ : List (S32), y_ = (x4_1 ++ [(⟨true, (rd_T65 x0_1 0).f2, (⟨#[]⟩ : ByteArray)⟩ : S32)]) := ⟨_, rfl⟩
              replace H : (if 1 ≤ (x0_1.length : Int) then (diff_entries.l0 k1 (x0_1.drop 1) y258) else (none)) = some (r1, r2) := by first | (rw [hy258]; with_reducible exact H) | (have H2_ := (Option.bind_some _ _).symm.trans H; rw [hy258]; with_reducible exact H2_) | (have H2_ := (Option.bind_some _ _).symm.trans H; with_reducible exact H2_) | with_reducible exact H | (rw [hy258]; exact H) | exact H
              have Ny258 := Aside0.mk hy258
              clear hy258
              by_cases c6 : 1 ≤ (x0_1.length : Int)
              · rw [if_pos c6] at H
                have c6b0 := eq_true c6
                have c6b1 : decide (1 ≤ (x0_1.length : Int)) = true := decide_eq_true c6
                clear c6
                obtain ⟨y261, hy261⟩ : ∃ y_ : List (S65), y_ = (x0_1.drop 1) := ⟨_, rfl⟩
                replace H : (diff_entries.l0 k1 y261 y258) = some (r1, r2) := by first | (rw [hy261]; with_reducible exact H) | (have H2_ := (Option.bind_some _ _).symm.trans H; rw [hy261]; with_reducible exact H2_) | (have H2_ := (Option.bind_some _ _).symm.trans H; with_reducible exact H2_) | with_reducible exact H | (rw [hy261]; exact H) | exact H
                have Ny261 := Aside0.mk hy261
                clear hy261
                have H' := Aside0.mk H
                clear H
                obtain ⟨Ao7, co7, eo7⟩ := Kd.V_slice HO_0.out
                subst eo7
                have p256 : 0 ≤ (0 : Int) := (by omega)
                have q256 : 0 < (x0_1.length : Int) := of_decide_eq_true (by first | (with_reducible assumption) | assumption)
                obtain ⟨ad256, e256, hx256_0, hx256_1, hx256_2, hx256_3⟩ := at_T65 (Kd.V_reads' HO_0.out).2.2 0 p256 q256
                cases e256
                have qi256 : (0 < x0_1.length) = True := eq_true (by omega)
                (try rw [show ((0 : Int)).toNat = 0 from rfl] at hx256_0)
                (try rw [show 0 * 4 = 0 from rfl] at hx256_0)
                (try rw [Addr.add_zero'] at hx256_0)
                (try rw [show ((0 : Int)).toNat = 0 from rfl] at hx256_1)
                (try rw [show 0 * 4 = 0 from rfl] at hx256_1)
                (try rw [Addr.add_zero'] at hx256_1)
                (try rw [show ((0 : Int)).toNat = 0 from rfl] at hx256_2)
                (try rw [show 0 * 4 = 0 from rfl] at hx256_2)
                (try rw [Addr.add_zero'] at hx256_2)
                (try rw [show ((0 : Int)).toNat = 0 from rfl] at hx256_3)
                (try rw [show 0 * 4 = 0 from rfl] at hx256_3)
                (try rw [Addr.add_zero'] at hx256_3)
                replace p256 := eq_true p256
                replace q256 := eq_true q256
                go_wp2_with (first | ((with_reducible refine gate_dst (N := 5) rfl ?_); refine box_event ?hg (N := 5) ?hd (cs := #[.int .i64 0, .int .i64 0, .int .i64 0, .string (⟨#[]⟩ : ByteArray)]) (t := 65) ?hr ?_; (case hd => rfl); (case hg => rfl); (case hr => first | (go_simp; done) | (go_simp; rfl)); intro gb257 hg w8 hbox hb; have n0_ := Aside0.mk (Kd.V_below (Kd.V_elderB (by (with_reducible repeat (first | apply Kd.V_alloc | apply Kd.V_drewN | apply Kd.V_drew)); exact HO_0.out) gb257 (Nat.le_of_eq hg.symm)) hb); have n1_ := Aside0.mk (Kd.R_below (by (with_reducible repeat (first | apply Kd.R_alloc | apply Kd.R_drewN | apply Kd.R_drew)); exact HO_4.out) hb); have n2_ := Aside0.mk (below_step (by repeat (first | (with_reducible first | exact HB.out | apply below_alloc | apply pw_below_drewN | apply below_drew1) | exact HB.out)) hb); have n3_ := Aside0.mk (hbox); have n4_ := Aside0.mk ((by rw [hg]; exact (below_size (by repeat (first | (with_reducible first | exact HB.out | apply below_alloc | apply pw_below_drewN | apply below_drew1) | exact HB.out))) : w.heap.size ≤ gb257)); have n5_ := Aside0.mk ((by rw [hg]; exact (below_size (by repeat (first | (with_reducible first | exact HB.out | apply below_alloc | apply pw_below_drewN | apply below_drew1) | exact HB.out))) : w.heap.size ≤ gb257)); clear HO_0; clear HO_4; clear HB; have HO_0 := n0_; have HO_4 := n1_; have HB := n2_; have BK257 := n3_; have GW257 := n4_; have GE257 := n5_; clear n0_ n1_ n2_ n3_ n4_ n5_; clear hb hbox hg; have hcz9_0 : w8.cell? ⟨gb257, 0, none⟩ = some (.int .i64 0) := (blk_cell BK257.out 0).trans rfl; have hcz9_1 : w8.cell? ⟨gb257, 1, none⟩ = some (.int .i64 0) := (blk_cell BK257.out 1).trans rfl; have hcz9_2 : w8.cell? ⟨gb257, 2, none⟩ = some (.int .i64 0) := (blk_cell BK257.out 2).trans rfl; have hcz9_3 : w8.cell? ⟨gb257, 3, none⟩ = some (.string (⟨#[]⟩ : ByteArray)) := (blk_cell BK257.out 3).trans rfl; have hfz9_0 := blk_frozen BK257.out 0; have hfz9_1 := blk_frozen BK257.out 1; have hfz9_2 := blk_frozen BK257.out 2; have hfz9_3 := blk_frozen BK257.out 3) | ((with_reducible refine gate_builtin (b := .append) (xs := #[.tmp 18, .tmp 22]) rfl ?_); at_builtin; refine Kd.R_append k32 (w0 := w) w.heap.size rfl (.tmp 18) (.tmp 22) 29 32 (.agg #[(.bool false), (.int .i64 0), (.string ⟨#[]⟩)]) 32 rfl Tryz.underlying29 info32 rfl (by decide) (by omega) u4 x4_1 (⟨true, (rd_T65 x0_1 0).f2, (⟨#[]⟩ : ByteArray)⟩ : S32) [.bool true, .int .i64 ((rd_T65 x0_1 0).f2), .string (⟨#[]⟩ : ByteArray)] (fun k_ => (w.heap.size ≤ k_)) (fun _ => False) rfl (by first | (go_simp; done) | (go_simp; rfl)) ?aP (fun _ hk => hk.elim) ?aF ?aO ?aB ?aS ?aL ?_; (case aP => exact k32_mkM _ _ _ (⟨true, (rd_T65 x0_1 0).f2, (⟨#[]⟩ : ByteArray)⟩ : S32)); (case aB => exact (by repeat (first | (with_reducible first | exact HB.out | apply below_alloc | apply pw_below_drewN | apply below_drew1 | refine below_set ?_ GE257.out) | exact HB.out))); (case aF => exact (fun k_ hk => (Nat.le_trans (below_size (by repeat (first | (with_reducible first | exact HB.out | apply below_alloc | apply pw_below_drewN | apply below_drew1 | refine below_set ?_ GE257.out) | exact HB.out))) hk))); (case aO => exact (by (with_reducible repeat (first | apply Kd.R_alloc | apply Kd.R_drewN | apply Kd.R_drew)); exact Kd.R_mono (Kd.R_far (p := ⟨gb257, 3, none⟩) (Kd.R_far (p := ⟨gb257, 2, none⟩) (Kd.R_far (p := ⟨gb257, 1, none⟩) (Kd.R_far (p := ⟨gb257, 0, none⟩) (Kd.R_types HO_4.out BK257.out (by decide)) (fun _ hk => hk.2) (.int .i64 ((rd_T65 x0_1 0).f0))) (fun _ hk => hk.2) (.int .i64 ((rd_T65 x0_1 0).f1))) (fun _ hk => hk.2) (.int .i64 ((rd_T65 x0_1 0).f2))) (fun _ hk => hk.2) (.string ((rd_T65 x0_1 0).f3))) (fun _ hk => hk.1))); (case aS => exact (below_size (by repeat (first | (with_reducible first | exact HB.out | apply below_alloc | apply pw_below_drewN | apply below_drew1 | refine below_set ?_ GE257.out) | exact HB.out)))); (case aL => have := LMc5.out; omega); intro v259 w10 ho hb hg hat; rw [← Ny258.out] at ho; have n0_ := Aside0.mk (Kd.V_afterv (ok := (fun k_ => (P0_ k_ ∨ w.heap.size ≤ k_) ∧ k_ ≠ gb257)) (by (with_reducible repeat (first | apply Kd.V_alloc | apply Kd.V_drewN | apply Kd.V_drew)); exact Kd.V_mono (Kd.V_far (p := ⟨gb257, 3, none⟩) (Kd.V_far (p := ⟨gb257, 2, none⟩) (Kd.V_far (p := ⟨gb257, 1, none⟩) (Kd.V_far (p := ⟨gb257, 0, none⟩) (Kd.V_mono HO_0.out (fun k_ hk => (⟨hk, hk.2⟩ : _ ∧ k_ ≠ gb257))) (fun _ hk => hk.2) (.int .i64 ((rd_T65 x0_1 0).f0))) (fun _ hk => hk.2) (.int .i64 ((rd_T65 x0_1 0).f1))) (fun _ hk => hk.2) (.int .i64 ((rd_T65 x0_1 0).f2))) (fun _ hk => hk.2) (.string ((rd_T65 x0_1 0).f3))) (fun _ hk => ⟨⟨hk.1.1.1, hk.1.2⟩, hk.1.1.2⟩)) hg hat); have n1_ := Aside0.mk (blk_grown (g := gb257) (o := .cells #[.int .i64 ((rd_T65 x0_1 0).f0), .int .i64 ((rd_T65 x0_1 0).f1), .int .i64 ((rd_T65 x0_1 0).f2), .string ((rd_T65 x0_1 0).f3)] 65 (0, 0)) (by (with_reducible repeat (first | refine blk_drewN ?_ _ | refine blk_drew ?_ | refine blk_alloc ?_ _)); refine blk_put (cs := #[.int .i64 ((rd_T65 x0_1 0).f0), .int .i64 ((rd_T65 x0_1 0).f1), .int .i64 ((rd_T65 x0_1 0).f2), .string (⟨#[]⟩ : ByteArray)]) ?_ 3 _ rfl; (with_reducible repeat (first | refine blk_drewN ?_ _ | refine blk_drew ?_ | refine blk_alloc ?_ _)); refine blk_put (cs := #[.int .i64 ((rd_T65 x0_1 0).f0), .int .i64 ((rd_T65 x0_1 0).f1), .int .i64 0, .string (⟨#[]⟩ : ByteArray)]) ?_ 2 _ rfl; (with_reducible repeat (first | refine blk_drewN ?_ _ | refine blk_drew ?_ | refine blk_alloc ?_ _)); refine blk_put (cs := #[.int .i64 ((rd_T65 x0_1 0).f0), .int .i64 0, .int .i64 0, .string (⟨#[]⟩ : ByteArray)]) ?_ 1 _ rfl; (with_reducible repeat (first | refine blk_drewN ?_ _ | refine blk_drew ?_ | refine blk_alloc ?_ _)); refine blk_put (cs := #[.int .i64 0, .int .i64 0, .int .i64 0, .string (⟨#[]⟩ : ByteArray)]) ?_ 0 _ rfl; (with_reducible repeat (first | refine blk_drewN ?_ _ | refine blk_drew ?_ | refine blk_alloc ?_ _)); exact BK257.out) hg (Kd.R_ne HO_4.out BK257.out (by decide))); have n2_ := Aside0.mk (hb); have n3_ := Aside0.mk (ho); clear HO_0; clear BK257; clear HB; clear HO_4; have HO_0 := n0_; have BK257 := n1_; have HB := n2_; have HO260 := n3_; clear n0_ n1_ n2_ n3_; clear ho hb hg hat; have q11 : (1 : Int) ≤ ((x0_1.length : Int) : Int) := of_decide_eq_true (by first | (with_reducible assumption) | assumption); obtain ⟨i011, hi011, _, hsz11, _⟩ := info_parts info65; have hroom11 : x0_1.length ≤ co7 := (Kd.V_reads' HO_0.out).2.1; have hC11 : Kd.F k65 _ _ (some ad256) x0_1.length x0_1 := (Kd.V_at (base := w.heap.size) HO_0.out).2.2; have hcut11 := cut_from (P := Tryz.prog) 61 65 .i64 Tryz.underlying61 hi011 4 hsz11 (some ad256) x0_1.length co7 1 (by omega) q11; have hr11 := Kd.F_cut (m := (1 : Int).toNat) (c := co7) hC11 (by omega) hroom11; obtain ⟨A11, hA11⟩ : ∃ A1, A1 = (if co7 = (1 : Int).toNat then (some ad256) else ((some ad256) : Option Addr).map (·.add ((1 : Int).toNat * 4))) := ⟨_, rfl⟩; obtain ⟨c11, hc11⟩ : ∃ c1, c1 = co7 - (1 : Int).toNat := ⟨_, rfl⟩; have hy11 : y261.length = x0_1.length - (1 : Int).toNat := (by rw [Ny261.out, List.length_drop] <;> omega); rw [show (x0_1).drop (1 : Int).toNat = y261 from Ny261.out.symm] at hr11; replace hr11 : Kd.F k65 _ _ A11 y261.length y261 := (by rw [hA11]; exact hr11); rw [← hy11, ← hA11, ← hc11] at hcut11; have HO265 := Aside0.mk (show Kd.V k65 65 _ w.heap.size _ (.slice A11 y261.length c11) y261 from Kd.V_mk (by rw [hy11, hc11]; exact Nat.sub_le_sub_right hroom11 _) hr11); have HC265 := Aside0.mk (show y261.length ≤ c11 from by rw [hy11, hc11]; exact Nat.sub_le_sub_right hroom11 _); clear hr11 hC11 hroom11 hi011 hsz11 hc11; have KY11 := Aside0.mk hy11; have KA11 := Aside0.mk hA11; clear hy11 hA11; replace q11 := eq_true q11))
                go_roundg k1
                case measure => have := HK1.out; omega
                case rel => exact ⟨(y261), (y258), H', ⟨by have := HK1.out; omega⟩, ⟨by (with_reducible repeat (first | apply Kd.V_alloc | apply Kd.V_drewN | apply Kd.V_drew)); exact Kd.V_mono HO265.out (fun _ hk => ⟨hk.1.1, hk.2⟩)⟩, ⟨by (with_reducible repeat (first | apply Kd.R_alloc | apply Kd.R_drewN | apply Kd.R_drew)); exact HO260.out⟩, ⟨by repeat (first | (with_reducible first | exact HB.out | apply below_alloc | apply pw_below_drewN | apply below_drew1 | refine below_set ?_ GE257.out) | exact HB.out)⟩⟩
              · rw [if_neg c6] at H
                exact absurd H (by simp)
            · rw [if_neg c5] at H
              exact absurd H (by simp)
          · rw [if_neg c4] at H
            have c4b0 : (((rd_T65 x0_1 0).f0) == 1) = false := beq_eq_false_iff_ne.mpr c4
            have c4b1 : (((rd_T65 x0_1 0).f0) != 1) = true := bne_iff_ne.mpr c4
            by_cases c12 : ((rd_T65 x0_1 0).f0) = 2
            · rw [if_pos c12] at H
              have c12b0 : (((rd_T65 x0_1 0).f0) == 2) = true := beq_iff_eq.mpr c12
              have c12b1 : (((rd_T65 x0_1 0).f0) != 2) = false := bne_eq_false_iff_eq.mpr c12
              clear c12
              by_cases c13 : x4_1.length < 4398046511104
              · rw [if_pos c13] at H
                have LMc13 := Aside0.mk c13
                clear c13
                obtain ⟨y266, hy266⟩ : ∃ y_ : List (S32), y_ = (x4_1 ++ [(⟨false, 0, (rd_T65 x0_1 0).f3⟩ : S32)]) := ⟨_, rfl⟩
                replace H : (if 1 ≤ (x0_1.length : Int) then (diff_entries.l0 k1 (x0_1.drop 1) y266) else (none)) = some (r1, r2) := by first | (rw [hy266]; with_reducible exact H) | (have H2_ := (Option.bind_some _ _).symm.trans H; rw [hy266]; with_reducible exact H2_) | (have H2_ := (Option.bind_some _ _).symm.trans H; with_reducible exact H2_) | with_reducible exact H | (rw [hy266]; exact H) | exact H
                have Ny266 := Aside0.mk hy266
                clear hy266
                by_cases c14 : 1 ≤ (x0_1.length : Int)
                · rw [if_pos c14] at H
                  have c14b0 := eq_true c14
                  have c14b1 : decide (1 ≤ (x0_1.length : Int)) = true := decide_eq_true c14
                  clear c14
                  obtain ⟨y269, hy269⟩ : ∃ y_ : List (S65), y_ = (x0_1.drop 1) := ⟨_, rfl⟩
                  replace H : (diff_entries.l0 k1 y269 y266) = some (r1, r2) := by first | (rw [hy269]; with_reducible exact H) | (have H2_ := (Option.bind_some _ _).symm.trans H; rw [hy269]; with_reducible exact H2_) | (have H2_ := (Option.bind_some _ _).symm.trans H; with_reducible exact H2_) | with_reducible exact H | (rw [hy269]; exact H) | exact H
                  have Ny269 := Aside0.mk hy269
                  clear hy269
                  have H' := Aside0.mk H
                  clear H
                  obtain ⟨Ao15, co15, eo15⟩ := Kd.V_slice HO_0.out
                  subst eo15
                  have p256 : 0 ≤ (0 : Int) := (by omega)
                  have q256 : 0 < (x0_1.length : Int) := of_decide_eq_true (by first | (with_reducible assumption) | assumption)
                  obtain ⟨ad256, e256, hx256_0, hx256_1, hx256_2, hx256_3⟩ := at_T65 (Kd.V_reads' HO_0.out).2.2 0 p256 q256
                  cases e256
                  have qi256 : (0 < x0_1.length) = True := eq_true (by omega)
                  (try rw [show ((0 : Int)).toNat = 0 from rfl] at hx256_0)
                  (try rw [show 0 * 4 = 0 from rfl] at hx256_0)
                  (try rw [Addr.add_zero'] at hx256_0)
                  (try rw [show ((0 : Int)).toNat = 0 from rfl] at hx256_1)
                  (try rw [show 0 * 4 = 0 from rfl] at hx256_1)
                  (try rw [Addr.add_zero'] at hx256_1)
                  (try rw [show ((0 : Int)).toNat = 0 from rfl] at hx256_2)
                  (try rw [show 0 * 4 = 0 from rfl] at hx256_2)
                  (try rw [Addr.add_zero'] at hx256_2)
                  (try rw [show ((0 : Int)).toNat = 0 from rfl] at hx256_3)
                  (try rw [show 0 * 4 = 0 from rfl] at hx256_3)
                  (try rw [Addr.add_zero'] at hx256_3)
                  replace p256 := eq_true p256
                  replace q256 := eq_true q256
                  go_wp2_with (first | ((with_reducible refine gate_dst (N := 5) rfl ?_); refine box_event ?hg (N := 5) ?hd (cs := #[.int .i64 0, .int .i64 0, .int .i64 0, .string (⟨#[]⟩ : ByteArray)]) (t := 65) ?hr ?_; (case hd => rfl); (case hg => rfl); (case hr => first | (go_simp; done) | (go_simp; rfl)); intro gb257 hg w16 hbox hb; have n0_ := Aside0.mk (Kd.V_below (Kd.V_elderB (by (with_reducible repeat (first | apply Kd.V_alloc | apply Kd.V_drewN | apply Kd.V_drew)); exact HO_0.out) gb257 (Nat.le_of_eq hg.symm)) hb); have n1_ := Aside0.mk (Kd.R_below (by (with_reducible repeat (first | apply Kd.R_alloc | apply Kd.R_drewN | apply Kd.R_drew)); exact HO_4.out) hb); have n2_ := Aside0.mk (below_step (by repeat (first | (with_reducible first | exact HB.out | apply below_alloc | apply pw_below_drewN | apply below_drew1) | exact HB.out)) hb); have n3_ := Aside0.mk (hbox); have n4_ := Aside0.mk ((by rw [hg]; exact (below_size (by repeat (first | (with_reducible first | exact HB.out | apply below_alloc | apply pw_below_drewN | apply below_drew1) | exact HB.out))) : w.heap.size ≤ gb257)); have n5_ := Aside0.mk ((by rw [hg]; exact (below_size (by repeat (first | (with_reducible first | exact HB.out | apply below_alloc | apply pw_below_drewN | apply below_drew1) | exact HB.out))) : w.heap.size ≤ gb257)); clear HO_0; clear HO_4; clear HB; have HO_0 := n0_; have HO_4 := n1_; have HB := n2_; have BK257 := n3_; have GW257 := n4_; have GE257 := n5_; clear n0_ n1_ n2_ n3_ n4_ n5_; clear hb hbox hg; have hcz17_0 : w16.cell? ⟨gb257, 0, none⟩ = some (.int .i64 0) := (blk_cell BK257.out 0).trans rfl; have hcz17_1 : w16.cell? ⟨gb257, 1, none⟩ = some (.int .i64 0) := (blk_cell BK257.out 1).trans rfl; have hcz17_2 : w16.cell? ⟨gb257, 2, none⟩ = some (.int .i64 0) := (blk_cell BK257.out 2).trans rfl; have hcz17_3 : w16.cell? ⟨gb257, 3, none⟩ = some (.string (⟨#[]⟩ : ByteArray)) := (blk_cell BK257.out 3).trans rfl; have hfz17_0 := blk_frozen BK257.out 0; have hfz17_1 := blk_frozen BK257.out 1; have hfz17_2 := blk_frozen BK257.out 2; have hfz17_3 := blk_frozen BK257.out 3) | ((with_reducible refine gate_builtin (b := .append) (xs := #[.tmp 26, .tmp 30]) rfl ?_); at_builtin; refine Kd.R_append k32 (w0 := w) w.heap.size rfl (.tmp 26) (.tmp 30) 29 32 (.agg #[(.bool false), (.int .i64 0), (.string ⟨#[]⟩)]) 32 rfl Tryz.underlying29 info32 rfl (by decide) (by omega) u4 x4_1 (⟨false, 0, (rd_T65 x0_1 0).f3⟩ : S32) [.bool false, .int .i64 0, .string ((rd_T65 x0_1 0).f3)] (fun k_ => (w.heap.size ≤ k_)) (fun _ => False) rfl (by first | (go_simp; done) | (go_simp; rfl)) ?aP (fun _ hk => hk.elim) ?aF ?aO ?aB ?aS ?aL ?_; (case aP => exact k32_mkM _ _ _ (⟨false, 0, (rd_T65 x0_1 0).f3⟩ : S32)); (case aB => exact (by repeat (first | (with_reducible first | exact HB.out | apply below_alloc | apply pw_below_drewN | apply below_drew1 | refine below_set ?_ GE257.out) | exact HB.out))); (case aF => exact (fun k_ hk => (Nat.le_trans (below_size (by repeat (first | (with_reducible first | exact HB.out | apply below_alloc | apply pw_below_drewN | apply below_drew1 | refine below_set ?_ GE257.out) | exact HB.out))) hk))); (case aO => exact (by (with_reducible repeat (first | apply Kd.R_alloc | apply Kd.R_drewN | apply Kd.R_drew)); exact Kd.R_mono (Kd.R_far (p := ⟨gb257, 3, none⟩) (Kd.R_far (p := ⟨gb257, 2, none⟩) (Kd.R_far (p := ⟨gb257, 1, none⟩) (Kd.R_far (p := ⟨gb257, 0, none⟩) (Kd.R_types HO_4.out BK257.out (by decide)) (fun _ hk => hk.2) (.int .i64 ((rd_T65 x0_1 0).f0))) (fun _ hk => hk.2) (.int .i64 ((rd_T65 x0_1 0).f1))) (fun _ hk => hk.2) (.int .i64 ((rd_T65 x0_1 0).f2))) (fun _ hk => hk.2) (.string ((rd_T65 x0_1 0).f3))) (fun _ hk => hk.1))); (case aS => exact (below_size (by repeat (first | (with_reducible first | exact HB.out | apply below_alloc | apply pw_below_drewN | apply below_drew1 | refine below_set ?_ GE257.out) | exact HB.out)))); (case aL => have := LMc13.out; omega); intro v267 w18 ho hb hg hat; rw [← Ny266.out] at ho; have n0_ := Aside0.mk (Kd.V_afterv (ok := (fun k_ => (P0_ k_ ∨ w.heap.size ≤ k_) ∧ k_ ≠ gb257)) (by (with_reducible repeat (first | apply Kd.V_alloc | apply Kd.V_drewN | apply Kd.V_drew)); exact Kd.V_mono (Kd.V_far (p := ⟨gb257, 3, none⟩) (Kd.V_far (p := ⟨gb257, 2, none⟩) (Kd.V_far (p := ⟨gb257, 1, none⟩) (Kd.V_far (p := ⟨gb257, 0, none⟩) (Kd.V_mono HO_0.out (fun k_ hk => (⟨hk, hk.2⟩ : _ ∧ k_ ≠ gb257))) (fun _ hk => hk.2) (.int .i64 ((rd_T65 x0_1 0).f0))) (fun _ hk => hk.2) (.int .i64 ((rd_T65 x0_1 0).f1))) (fun _ hk => hk.2) (.int .i64 ((rd_T65 x0_1 0).f2))) (fun _ hk => hk.2) (.string ((rd_T65 x0_1 0).f3))) (fun _ hk => ⟨⟨hk.1.1.1, hk.1.2⟩, hk.1.1.2⟩)) hg hat); have n1_ := Aside0.mk (blk_grown (g := gb257) (o := .cells #[.int .i64 ((rd_T65 x0_1 0).f0), .int .i64 ((rd_T65 x0_1 0).f1), .int .i64 ((rd_T65 x0_1 0).f2), .string ((rd_T65 x0_1 0).f3)] 65 (0, 0)) (by (with_reducible repeat (first | refine blk_drewN ?_ _ | refine blk_drew ?_ | refine blk_alloc ?_ _)); refine blk_put (cs := #[.int .i64 ((rd_T65 x0_1 0).f0), .int .i64 ((rd_T65 x0_1 0).f1), .int .i64 ((rd_T65 x0_1 0).f2), .string (⟨#[]⟩ : ByteArray)]) ?_ 3 _ rfl; (with_reducible repeat (first | refine blk_drewN ?_ _ | refine blk_drew ?_ | refine blk_alloc ?_ _)); refine blk_put (cs := #[.int .i64 ((rd_T65 x0_1 0).f0), .int .i64 ((rd_T65 x0_1 0).f1), .int .i64 0, .string (⟨#[]⟩ : ByteArray)]) ?_ 2 _ rfl; (with_reducible repeat (first | refine blk_drewN ?_ _ | refine blk_drew ?_ | refine blk_alloc ?_ _)); refine blk_put (cs := #[.int .i64 ((rd_T65 x0_1 0).f0), .int .i64 0, .int .i64 0, .string (⟨#[]⟩ : ByteArray)]) ?_ 1 _ rfl; (with_reducible repeat (first | refine blk_drewN ?_ _ | refine blk_drew ?_ | refine blk_alloc ?_ _)); refine blk_put (cs := #[.int .i64 0, .int .i64 0, .int .i64 0, .string (⟨#[]⟩ : ByteArray)]) ?_ 0 _ rfl; (with_reducible repeat (first | refine blk_drewN ?_ _ | refine blk_drew ?_ | refine blk_alloc ?_ _)); exact BK257.out) hg (Kd.R_ne HO_4.out BK257.out (by decide))); have n2_ := Aside0.mk (hb); have n3_ := Aside0.mk (ho); clear HO_0; clear BK257; clear HB; clear HO_4; have HO_0 := n0_; have BK257 := n1_; have HB := n2_; have HO268 := n3_; clear n0_ n1_ n2_ n3_; clear ho hb hg hat; have q19 : (1 : Int) ≤ ((x0_1.length : Int) : Int) := of_decide_eq_true (by first | (with_reducible assumption) | assumption); obtain ⟨i019, hi019, _, hsz19, _⟩ := info_parts info65; have hroom19 : x0_1.length ≤ co15 := (Kd.V_reads' HO_0.out).2.1; have hC19 : Kd.F k65 _ _ (some ad256) x0_1.length x0_1 := (Kd.V_at (base := w.heap.size) HO_0.out).2.2; have hcut19 := cut_from (P := Tryz.prog) 61 65 .i64 Tryz.underlying61 hi019 4 hsz19 (some ad256) x0_1.length co15 1 (by omega) q19; have hr19 := Kd.F_cut (m := (1 : Int).toNat) (c := co15) hC19 (by omega) hroom19; obtain ⟨A19, hA19⟩ : ∃ A1, A1 = (if co15 = (1 : Int).toNat then (some ad256) else ((some ad256) : Option Addr).map (·.add ((1 : Int).toNat * 4))) := ⟨_, rfl⟩; obtain ⟨c19, hc19⟩ : ∃ c1, c1 = co15 - (1 : Int).toNat := ⟨_, rfl⟩; have hy19 : y269.length = x0_1.length - (1 : Int).toNat := (by rw [Ny269.out, List.length_drop] <;> omega); rw [show (x0_1).drop (1 : Int).toNat = y269 from Ny269.out.symm] at hr19; replace hr19 : Kd.F k65 _ _ A19 y269.length y269 := (by rw [hA19]; exact hr19); rw [← hy19, ← hA19, ← hc19] at hcut19; have HO273 := Aside0.mk (show Kd.V k65 65 _ w.heap.size _ (.slice A19 y269.length c19) y269 from Kd.V_mk (by rw [hy19, hc19]; exact Nat.sub_le_sub_right hroom19 _) hr19); have HC273 := Aside0.mk (show y269.length ≤ c19 from by rw [hy19, hc19]; exact Nat.sub_le_sub_right hroom19 _); clear hr19 hC19 hroom19 hi019 hsz19 hc19; have KY19 := Aside0.mk hy19; have KA19 := Aside0.mk hA19; clear hy19 hA19; replace q19 := eq_true q19))
                  go_roundg k1
                  case measure => have := HK1.out; omega
                  case rel => exact ⟨(y269), (y266), H', ⟨by have := HK1.out; omega⟩, ⟨by (with_reducible repeat (first | apply Kd.V_alloc | apply Kd.V_drewN | apply Kd.V_drew)); exact Kd.V_mono HO273.out (fun _ hk => ⟨hk.1.1, hk.2⟩)⟩, ⟨by (with_reducible repeat (first | apply Kd.R_alloc | apply Kd.R_drewN | apply Kd.R_drew)); exact HO268.out⟩, ⟨by repeat (first | (with_reducible first | exact HB.out | apply below_alloc | apply pw_below_drewN | apply below_drew1 | refine below_set ?_ GE257.out) | exact HB.out)⟩⟩
                · rw [if_neg c14] at H
                  exact absurd H (by simp)
              · rw [if_neg c13] at H
                exact absurd H (by simp)
            · rw [if_neg c12] at H
              have c12b0 : (((rd_T65 x0_1 0).f0) == 2) = false := beq_eq_false_iff_ne.mpr c12
              have c12b1 : (((rd_T65 x0_1 0).f0) != 2) = true := bne_iff_ne.mpr c12
              simp only [Option.some.injEq, Prod.mk.injEq] at H
              obtain ⟨rfl, rfl⟩ := H
              obtain ⟨Ao20, co20, eo20⟩ := Kd.V_slice HO_0.out
              subst eo20
              have p256 : 0 ≤ (0 : Int) := (by omega)
              have q256 : 0 < (x0_1.length : Int) := of_decide_eq_true (by first | (with_reducible assumption) | assumption)
              obtain ⟨ad256, e256, hx256_0, hx256_1, hx256_2, hx256_3⟩ := at_T65 (Kd.V_reads' HO_0.out).2.2 0 p256 q256
              cases e256
              have qi256 : (0 < x0_1.length) = True := eq_true (by omega)
              (try rw [show ((0 : Int)).toNat = 0 from rfl] at hx256_0)
              (try rw [show 0 * 4 = 0 from rfl] at hx256_0)
              (try rw [Addr.add_zero'] at hx256_0)
              (try rw [show ((0 : Int)).toNat = 0 from rfl] at hx256_1)
              (try rw [show 0 * 4 = 0 from rfl] at hx256_1)
              (try rw [Addr.add_zero'] at hx256_1)
              (try rw [show ((0 : Int)).toNat = 0 from rfl] at hx256_2)
              (try rw [show 0 * 4 = 0 from rfl] at hx256_2)
              (try rw [Addr.add_zero'] at hx256_2)
              (try rw [show ((0 : Int)).toNat = 0 from rfl] at hx256_3)
              (try rw [show 0 * 4 = 0 from rfl] at hx256_3)
              (try rw [Addr.add_zero'] at hx256_3)
              replace p256 := eq_true p256
              replace q256 := eq_true q256
              go_wp2_with (first | ((with_reducible refine gate_dst (N := 5) rfl ?_); refine box_event ?hg (N := 5) ?hd (cs := #[.int .i64 0, .int .i64 0, .int .i64 0, .string (⟨#[]⟩ : ByteArray)]) (t := 65) ?hr ?_; (case hd => rfl); (case hg => rfl); (case hr => first | (go_simp; done) | (go_simp; rfl)); intro gb257 hg w21 hbox hb; have n0_ := Aside0.mk (Kd.V_below (Kd.V_elderB (by (with_reducible repeat (first | apply Kd.V_alloc | apply Kd.V_drewN | apply Kd.V_drew)); exact HO_0.out) gb257 (Nat.le_of_eq hg.symm)) hb); have n1_ := Aside0.mk (Kd.R_below (by (with_reducible repeat (first | apply Kd.R_alloc | apply Kd.R_drewN | apply Kd.R_drew)); exact HO_4.out) hb); have n2_ := Aside0.mk (below_step (by repeat (first | (with_reducible first | exact HB.out | apply below_alloc | apply pw_below_drewN | apply below_drew1) | exact HB.out)) hb); have n3_ := Aside0.mk (hbox); have n4_ := Aside0.mk ((by rw [hg]; exact (below_size (by repeat (first | (with_reducible first | exact HB.out | apply below_alloc | apply pw_below_drewN | apply below_drew1) | exact HB.out))) : w.heap.size ≤ gb257)); have n5_ := Aside0.mk ((by rw [hg]; exact (below_size (by repeat (first | (with_reducible first | exact HB.out | apply below_alloc | apply pw_below_drewN | apply below_drew1) | exact HB.out))) : w.heap.size ≤ gb257)); clear HO_0; clear HO_4; clear HB; have HO_0 := n0_; have HO_4 := n1_; have HB := n2_; have BK257 := n3_; have GW257 := n4_; have GE257 := n5_; clear n0_ n1_ n2_ n3_ n4_ n5_; clear hb hbox hg; have hcz22_0 : w21.cell? ⟨gb257, 0, none⟩ = some (.int .i64 0) := (blk_cell BK257.out 0).trans rfl; have hcz22_1 : w21.cell? ⟨gb257, 1, none⟩ = some (.int .i64 0) := (blk_cell BK257.out 1).trans rfl; have hcz22_2 : w21.cell? ⟨gb257, 2, none⟩ = some (.int .i64 0) := (blk_cell BK257.out 2).trans rfl; have hcz22_3 : w21.cell? ⟨gb257, 3, none⟩ = some (.string (⟨#[]⟩ : ByteArray)) := (blk_cell BK257.out 3).trans rfl; have hfz22_0 := blk_frozen BK257.out 0; have hfz22_1 := blk_frozen BK257.out 1; have hfz22_2 := blk_frozen BK257.out 2; have hfz22_3 := blk_frozen BK257.out 3))
              go_ret2
              exact ⟨_, _, by first | rfl | (simp [errW_none, errW_some] <;> rfl) | (simp [*, errW_none, errW_some] <;> rfl), by (with_reducible repeat (first | apply Kd.R_alloc | apply Kd.R_drewN | apply Kd.R_drew)); exact Kd.R_mono (Kd.R_far (p := ⟨gb257, 3, none⟩) (Kd.R_far (p := ⟨gb257, 2, none⟩) (Kd.R_far (p := ⟨gb257, 1, none⟩) (Kd.R_far (p := ⟨gb257, 0, none⟩) (Kd.R_types HO_4.out BK257.out (by decide)) (fun _ hk => hk.2) (.int .i64 ((rd_T65 x0_1 0).f0))) (fun _ hk => hk.2) (.int .i64 ((rd_T65 x0_1 0).f1))) (fun _ hk => hk.2) (.int .i64 ((rd_T65 x0_1 0).f2))) (fun _ hk => hk.2) (.string ((rd_T65 x0_1 0).f3))) (fun _ hk => hk.1), by (with_reducible repeat (first | apply Kd.V_alloc | apply Kd.V_drewN | apply Kd.V_drew)); exact Kd.V_mono (Kd.V_far (p := ⟨gb257, 3, none⟩) (Kd.V_far (p := ⟨gb257, 2, none⟩) (Kd.V_far (p := ⟨gb257, 1, none⟩) (Kd.V_far (p := ⟨gb257, 0, none⟩) (Kd.V_mono HO_0.out (fun k_ hk => (⟨hk, hk.2⟩ : _ ∧ k_ ≠ gb257))) (fun _ hk => hk.2) (.int .i64 ((rd_T65 x0_1 0).f0))) (fun _ hk => hk.2) (.int .i64 ((rd_T65 x0_1 0).f1))) (fun _ hk => hk.2) (.int .i64 ((rd_T65 x0_1 0).f2))) (fun _ hk => hk.2) (.string ((rd_T65 x0_1 0).f3))) (fun _ hk => ⟨hk.1.1.1, hk.1.1.2⟩), by repeat (first | (with_reducible first | exact HB.out | apply below_alloc | apply pw_below_drewN | apply below_drew1 | refine below_set ?_ GE257.out) | exact HB.out)⟩
        · rw [if_neg c3] at H
          exact absurd H (by simp)
      · rw [if_neg c2] at H
        have c2b0 : decide (0 < (x0_1.length : Int)) = false := decide_eq_false c2
        have c2b1 : decide (0 < x0_1.length) = false := decide_eq_false (by omega)
        clear c2
        simp only [Option.some.injEq, Prod.mk.injEq] at H
        obtain ⟨rfl, rfl⟩ := H
        obtain ⟨Ao23, co23, eo23⟩ := Kd.V_slice HO_0.out
        subst eo23
        go_wp2
        go_ret2
        exact ⟨_, _, by first | rfl | (simp [errW_none, errW_some] <;> rfl) | (simp [*, errW_none, errW_some] <;> rfl), by (with_reducible repeat (first | apply Kd.R_alloc | apply Kd.R_drewN | apply Kd.R_drew)); exact HO_4.out, by (with_reducible repeat (first | apply Kd.V_alloc | apply Kd.V_drewN | apply Kd.V_drew)); exact HO_0.out, by repeat (first | (with_reducible first | exact HB.out | apply below_alloc | apply pw_below_drewN | apply below_drew1) | exact HB.out)⟩
end Go.Proofs.YtdcldaknmenklaaGreatDoor.M
end
section
namespace Go.Proofs.YtdcldaknmenklaaGreatDoor.M
open Go.RowKit Go.Proofs.YtdcldaknmenklaaGreatDoorW.PrintWords Go.Proofs.YtdcldaknmenklaaGreatDoorW.PrintLast Go.Proofs.YtdcldaknmenklaaGreatDoorW.PrintMore
set_option linter.unusedVariables false
set_option linter.unusedSimpArgs false
def parseRest (size : Int) (z : List S32 × List S65) : List S32 × Int × Int :=
  match z.2 with
  | [] => ([], size, 2)
  | y :: r => if y.f0 = 7 then (match r with | [] => (z.1, size, 0) | u :: _ => ([], u.f1, 3)) else ([], y.f1, 3)
def diff_Parse.f (k : Nat) (a0 : ByteArray) : Option (List S32 × Int × Int) :=
  (tok_All.f k a0).bind fun y => if y.2.2 = 0 then (match y.1 with
    | [] => some ([], (a0.size : Int), 2)
    | x :: l => if x.f0 = 6 then (diff_entries.f k l).bind fun z => some (parseRest (a0.size : Int) z) else some ([], x.f1, 3)) else some ([], y.2.1, y.2.2)
theorem diff_Parse.mono : ∀ a0 k, LeO (diff_Parse.f k a0) (diff_Parse.f (k + 1) a0) := by
  intro a0 k
  unfold diff_Parse.f
  refine LeO.bind (tok_All.mono _ _) (fun y => LeO.ite ?_ (LeO.refl _))
  cases y.1 with
  | nil => exact LeO.refl _
  | cons x l => exact LeO.ite (LeO.bind (diff_entries.mono _ _) (fun _ => LeO.refl _)) (LeO.refl _)
theorem rd_zero (x : S65) (l : List S65) : rd_T65 (x :: l) 0 = x := rfl
theorem rd_one (x y : S65) (l : List S65) : rd_T65 (x :: y :: l) 1 = y := rfl
set_option maxHeartbeats 4000000 in
set_option maxRecDepth 1000000 in
theorem diff_Parse.calls (k : Nat) (a0 : ByteArray) (r1 : List S32) (r2 r3 : Int) (w : World) (hG : GW w) (h : diff_Parse.f k a0 = some (r1, r2, r3)) :
    Calls Tryz.prog 15 #[.string a0] w fun e w' => ∃ v0_ : Value, e = .returned (.tuple #[v0_, .int .i64 r2, .int .i64 r3]) ∧ Kd.R k32 32 w' w.heap.size (fun _ => True) v0_ r1 ∧ Below w.heap.size w w' := by
  have huE := Tryz.underlying32
  have huT := Tryz.underlying65
  unfold diff_Parse.f at h
  obtain ⟨⟨l, p, e⟩, hA, h⟩ := Option.bind_eq_some_iff.1 h
  dsimp only at h
  have HA := Aside0.mk hA
  have HG := Aside0.mk hG
  clear hA hG
  by_cases he : e = 0
  · subst he
    rw [if_pos rfl] at h
    rcases l with _ | ⟨x, l⟩
    · have hR := Option.some.inj h
      clear h
      injection hR with e1 hR
      injection hR with e2 e3
      subst e1 e2 e3
      go_enter Tryz.func15, Tryz.ntmps15
      go_wp2_with (go_at_call 29; refine (tok_All.calls k a0 _ _ _ _ HG.out HA.out).mono ?_; rintro ev W1 ⟨v0, rfl, ho, hb⟩; obtain ⟨A1, c1, eo⟩ := Kd.R_slice ho; subst eo; have HO := Aside0.mk ho; have HB := Aside0.mk hb; clear ho hb)
      go_ret3
      exact ⟨_, rfl, Kd.R_nil _ _ _ _ _, HB.out⟩
    have hlen1 : ((((x :: l).length : Nat) : Int) == 0) = false := by rw [beq_eq_false_iff_ne, List.length_cons]; omega
    by_cases h6 : x.f0 = 6
    · dsimp only at h
      rw [if_pos h6] at h
      obtain ⟨⟨z1, z2⟩, hE, h⟩ := Option.bind_eq_some_iff.1 h
      have hR := Option.some.inj h
      clear h
      have HE := Aside0.mk hE
      clear hE
      have h6b : (x.f0 != 6) = false := bne_eq_false_iff_eq.2 h6
      have h6c : (x.f0 == 6) = true := beq_iff_eq.2 h6
      unfold parseRest at hR
      dsimp only at hR
      rcases z2 with _ | ⟨y, z2⟩
      · dsimp only at hR
        injection hR with e1 hR
        injection hR with e2 e3
        subst e1 e2 e3
        go_enter Tryz.func15, Tryz.ntmps15
        go_wp2_with (first | (go_at_call 29; refine (tok_All.calls k a0 _ _ _ _ HG.out HA.out).mono ?_; rintro ev W1 ⟨v0, rfl, ho, hb⟩; obtain ⟨A1, c1, eo⟩ := Kd.R_slice ho; subst eo; have HO := Aside0.mk ho; have HB := Aside0.mk hb; clear ho hb; obtain ⟨ad1, ea1, hx0, hx1, hx2, hx3⟩ := at_T65 (Kd.R_reads' HO.out).2.2 0 (by omega) (by rw [List.length_cons]; omega); subst ea1; rw [rd_zero] at hx0 hx1 hx2 hx3; simp only [Int.toNat_zero, Nat.zero_mul, Addr.add_zero'] at hx0 hx1 hx2 hx3; have hlp : ((0 : Int) < (((x :: l).length : Nat) : Int)) = True := eq_true (by rw [List.length_cons]; omega); obtain ⟨i0_, hi0_, _, hsz0_, _⟩ := info_parts info65; have hroom_ := (Kd.R_reads' HO.out).2.1; have hcut := cut_from (P := Tryz.prog) 61 65 .i64 Tryz.underlying61 hi0_ 4 hsz0_ (some ad1) (x :: l).length c1 1 (by omega) (by rw [List.length_cons]; omega); have hF_ := Kd.F_cut (m := (1 : Int).toNat) (c := c1) (Kd.R_F HO.out) (by rw [List.length_cons]; simp) hroom_; obtain ⟨A2, hA2⟩ : ∃ A2, A2 = (if c1 = (1 : Int).toNat then (some ad1) else ((some ad1) : Option Addr).map (·.add ((1 : Int).toNat * 4))) := ⟨_, rfl⟩; obtain ⟨c2, hc2⟩ : ∃ c2, c2 = c1 - (1 : Int).toNat := ⟨_, rfl⟩; have hy_ : l.length = (x :: l).length - (1 : Int).toNat := (by rw [List.length_cons]; simp); rw [← hy_, ← hA2, ← hc2] at hcut; have HV := Aside0.mk (show Kd.V k65 65 W1 W1.heap.size (fun _ => True) (.slice A2 l.length c2) l from Kd.V_mk (by rw [hy_, hc2]; exact Nat.sub_le_sub_right hroom_ _) (by rw [hA2]; exact hF_)); clear hF_ hroom_ hi0_ hsz0_ hc2 hA2 hy_; (try rw [List.length_cons] at hcut)) | (go_at_call 30; refine (diff_entries.calls k (fun _ => True) A2 c2 l _ _ _ HV.out HE.out).mono ?_; rintro ev W2 ⟨v2, v3, rfl, ho2, hv3, hb2⟩; obtain ⟨A3, c3, eo3⟩ := Kd.V_slice hv3; subst eo3; have HB2 := Aside0.mk (below_step HB.out hb2); have HO2 := Aside0.mk (Kd.R_mono (ok' := fun _ => True) (Kd.R_lower ho2 (below_size HB.out)) (fun _ _ => trivial)); have HV3 := Aside0.mk hv3; clear ho2 hv3 hb2))
        repeat (go_quiet (fail); try go_wp2)
        go_ret3
        exact ⟨_, rfl, Kd.R_nil _ _ _ _ _, (by repeat (first | exact HB2.out | apply pw_below_drewN))⟩
      dsimp only at hR
      have hlen2 : ((((y :: z2).length : Nat) : Int) == 0) = false := by rw [beq_eq_false_iff_ne, List.length_cons]; omega
      have hlp2 : ((0 : Int) < (((y :: z2).length : Nat) : Int)) = True := eq_true (by rw [List.length_cons]; omega)
      by_cases h7 : y.f0 = 7
      · rw [if_pos h7] at hR
        have h7b : (y.f0 != 7) = false := bne_eq_false_iff_eq.2 h7
        rcases z2 with _ | ⟨u, z2⟩
        · dsimp only at hR
          injection hR with e1 hR
          injection hR with e2 e3
          subst e1 e2 e3
          go_enter Tryz.func15, Tryz.ntmps15
          go_wp2_with (first | (go_at_call 29; refine (tok_All.calls k a0 _ _ _ _ HG.out HA.out).mono ?_; rintro ev W1 ⟨v0, rfl, ho, hb⟩; obtain ⟨A1, c1, eo⟩ := Kd.R_slice ho; subst eo; have HO := Aside0.mk ho; have HB := Aside0.mk hb; clear ho hb; obtain ⟨ad1, ea1, hx0, hx1, hx2, hx3⟩ := at_T65 (Kd.R_reads' HO.out).2.2 0 (by omega) (by rw [List.length_cons]; omega); subst ea1; rw [rd_zero] at hx0 hx1 hx2 hx3; simp only [Int.toNat_zero, Nat.zero_mul, Addr.add_zero'] at hx0 hx1 hx2 hx3; have hlp : ((0 : Int) < (((x :: l).length : Nat) : Int)) = True := eq_true (by rw [List.length_cons]; omega); obtain ⟨i0_, hi0_, _, hsz0_, _⟩ := info_parts info65; have hroom_ := (Kd.R_reads' HO.out).2.1; have hcut := cut_from (P := Tryz.prog) 61 65 .i64 Tryz.underlying61 hi0_ 4 hsz0_ (some ad1) (x :: l).length c1 1 (by omega) (by rw [List.length_cons]; omega); have hF_ := Kd.F_cut (m := (1 : Int).toNat) (c := c1) (Kd.R_F HO.out) (by rw [List.length_cons]; simp) hroom_; obtain ⟨A2, hA2⟩ : ∃ A2, A2 = (if c1 = (1 : Int).toNat then (some ad1) else ((some ad1) : Option Addr).map (·.add ((1 : Int).toNat * 4))) := ⟨_, rfl⟩; obtain ⟨c2, hc2⟩ : ∃ c2, c2 = c1 - (1 : Int).toNat := ⟨_, rfl⟩; have hy_ : l.length = (x :: l).length - (1 : Int).toNat := (by rw [List.length_cons]; simp); rw [← hy_, ← hA2, ← hc2] at hcut; have HV := Aside0.mk (show Kd.V k65 65 W1 W1.heap.size (fun _ => True) (.slice A2 l.length c2) l from Kd.V_mk (by rw [hy_, hc2]; exact Nat.sub_le_sub_right hroom_ _) (by rw [hA2]; exact hF_)); clear hF_ hroom_ hi0_ hsz0_ hc2 hA2 hy_; (try rw [List.length_cons] at hcut)) | (go_at_call 30; refine (diff_entries.calls k (fun _ => True) A2 c2 l _ _ _ HV.out HE.out).mono ?_; rintro ev W2 ⟨v2, v3, rfl, ho2, hv3, hb2⟩; obtain ⟨A3, c3, eo3⟩ := Kd.V_slice hv3; subst eo3; have HB2 := Aside0.mk (below_step HB.out hb2); have HO2 := Aside0.mk (Kd.R_mono (ok' := fun _ => True) (Kd.R_lower ho2 (below_size HB.out)) (fun _ _ => trivial)); have HV3 := Aside0.mk hv3; clear ho2 hv3 hb2; obtain ⟨ad3, ea3, hy0, hy1, hy2, hy3⟩ := at_T65 (Kd.V_reads' HV3.out).2.2 0 (by omega) (by rw [List.length_cons]; omega); subst ea3; rw [rd_zero] at hy0 hy1 hy2 hy3; simp only [Int.toNat_zero, Nat.zero_mul, Addr.add_zero'] at hy0 hy1 hy2 hy3))
          repeat (go_quiet (fail); try go_wp2)
          go_ret3
          exact ⟨_, rfl, HO2.out, (by repeat (first | exact HB2.out | apply pw_below_drewN))⟩
        · dsimp only at hR
          have hlp4 : ((1 : Int) < (z2.length : Int) + 1 + 1) = True := eq_true (by omega)
          have hlp5 : ((1 : Int) < (((y :: u :: z2).length : Nat) : Int)) = True := eq_true (by rw [List.length_cons, List.length_cons]; omega)
          injection hR with e1 hR
          injection hR with e2 e3
          subst e1 e2 e3
          go_enter Tryz.func15, Tryz.ntmps15
          go_wp2_with (first | (go_at_call 29; refine (tok_All.calls k a0 _ _ _ _ HG.out HA.out).mono ?_; rintro ev W1 ⟨v0, rfl, ho, hb⟩; obtain ⟨A1, c1, eo⟩ := Kd.R_slice ho; subst eo; have HO := Aside0.mk ho; have HB := Aside0.mk hb; clear ho hb; obtain ⟨ad1, ea1, hx0, hx1, hx2, hx3⟩ := at_T65 (Kd.R_reads' HO.out).2.2 0 (by omega) (by rw [List.length_cons]; omega); subst ea1; rw [rd_zero] at hx0 hx1 hx2 hx3; simp only [Int.toNat_zero, Nat.zero_mul, Addr.add_zero'] at hx0 hx1 hx2 hx3; have hlp : ((0 : Int) < (((x :: l).length : Nat) : Int)) = True := eq_true (by rw [List.length_cons]; omega); obtain ⟨i0_, hi0_, _, hsz0_, _⟩ := info_parts info65; have hroom_ := (Kd.R_reads' HO.out).2.1; have hcut := cut_from (P := Tryz.prog) 61 65 .i64 Tryz.underlying61 hi0_ 4 hsz0_ (some ad1) (x :: l).length c1 1 (by omega) (by rw [List.length_cons]; omega); have hF_ := Kd.F_cut (m := (1 : Int).toNat) (c := c1) (Kd.R_F HO.out) (by rw [List.length_cons]; simp) hroom_; obtain ⟨A2, hA2⟩ : ∃ A2, A2 = (if c1 = (1 : Int).toNat then (some ad1) else ((some ad1) : Option Addr).map (·.add ((1 : Int).toNat * 4))) := ⟨_, rfl⟩; obtain ⟨c2, hc2⟩ : ∃ c2, c2 = c1 - (1 : Int).toNat := ⟨_, rfl⟩; have hy_ : l.length = (x :: l).length - (1 : Int).toNat := (by rw [List.length_cons]; simp); rw [← hy_, ← hA2, ← hc2] at hcut; have HV := Aside0.mk (show Kd.V k65 65 W1 W1.heap.size (fun _ => True) (.slice A2 l.length c2) l from Kd.V_mk (by rw [hy_, hc2]; exact Nat.sub_le_sub_right hroom_ _) (by rw [hA2]; exact hF_)); clear hF_ hroom_ hi0_ hsz0_ hc2 hA2 hy_; (try rw [List.length_cons] at hcut)) | (go_at_call 30; refine (diff_entries.calls k (fun _ => True) A2 c2 l _ _ _ HV.out HE.out).mono ?_; rintro ev W2 ⟨v2, v3, rfl, ho2, hv3, hb2⟩; obtain ⟨A3, c3, eo3⟩ := Kd.V_slice hv3; subst eo3; have HB2 := Aside0.mk (below_step HB.out hb2); have HO2 := Aside0.mk (Kd.R_mono (ok' := fun _ => True) (Kd.R_lower ho2 (below_size HB.out)) (fun _ _ => trivial)); have HV3 := Aside0.mk hv3; clear ho2 hv3 hb2; obtain ⟨ad3, ea3, hy0, hy1, hy2, hy3⟩ := at_T65 (Kd.V_reads' HV3.out).2.2 0 (by omega) (by rw [List.length_cons]; omega); subst ea3; rw [rd_zero] at hy0 hy1 hy2 hy3; simp only [Int.toNat_zero, Nat.zero_mul, Addr.add_zero'] at hy0 hy1 hy2 hy3; obtain ⟨ad4, ea4, hu0, hu1, hu2, hu3⟩ := at_T65 (Kd.V_reads' HV3.out).2.2 1 (by omega) (by rw [List.length_cons, List.length_cons]; omega); obtain rfl : ad3 = ad4 := (by injection ea4); rw [rd_one] at hu0 hu1 hu2 hu3; simp only [show ((1 : Int)).toNat = 1 from rfl, Nat.one_mul] at hu0 hu1 hu2 hu3; have hv1 : W2.cell? ⟨ad3.block, ad3.off + 4 + 1, none⟩ = some (.int .i64 u.f1) := (by first | exact hu1 | simpa [Addr.add] using hu1)))
          repeat (go_quiet (fail); try go_wp2)
          go_ret3
          exact ⟨_, rfl, Kd.R_nil _ _ _ _ _, (by repeat (first | exact HB2.out | apply pw_below_drewN))⟩
      · rw [if_neg h7] at hR
        have h7b : (y.f0 != 7) = true := bne_iff_ne.2 h7
        injection hR with e1 hR
        injection hR with e2 e3
        subst e1 e2 e3
        go_enter Tryz.func15, Tryz.ntmps15
        go_wp2_with (first | (go_at_call 29; refine (tok_All.calls k a0 _ _ _ _ HG.out HA.out).mono ?_; rintro ev W1 ⟨v0, rfl, ho, hb⟩; obtain ⟨A1, c1, eo⟩ := Kd.R_slice ho; subst eo; have HO := Aside0.mk ho; have HB := Aside0.mk hb; clear ho hb; obtain ⟨ad1, ea1, hx0, hx1, hx2, hx3⟩ := at_T65 (Kd.R_reads' HO.out).2.2 0 (by omega) (by rw [List.length_cons]; omega); subst ea1; rw [rd_zero] at hx0 hx1 hx2 hx3; simp only [Int.toNat_zero, Nat.zero_mul, Addr.add_zero'] at hx0 hx1 hx2 hx3; have hlp : ((0 : Int) < (((x :: l).length : Nat) : Int)) = True := eq_true (by rw [List.length_cons]; omega); obtain ⟨i0_, hi0_, _, hsz0_, _⟩ := info_parts info65; have hroom_ := (Kd.R_reads' HO.out).2.1; have hcut := cut_from (P := Tryz.prog) 61 65 .i64 Tryz.underlying61 hi0_ 4 hsz0_ (some ad1) (x :: l).length c1 1 (by omega) (by rw [List.length_cons]; omega); have hF_ := Kd.F_cut (m := (1 : Int).toNat) (c := c1) (Kd.R_F HO.out) (by rw [List.length_cons]; simp) hroom_; obtain ⟨A2, hA2⟩ : ∃ A2, A2 = (if c1 = (1 : Int).toNat then (some ad1) else ((some ad1) : Option Addr).map (·.add ((1 : Int).toNat * 4))) := ⟨_, rfl⟩; obtain ⟨c2, hc2⟩ : ∃ c2, c2 = c1 - (1 : Int).toNat := ⟨_, rfl⟩; have hy_ : l.length = (x :: l).length - (1 : Int).toNat := (by rw [List.length_cons]; simp); rw [← hy_, ← hA2, ← hc2] at hcut; have HV := Aside0.mk (show Kd.V k65 65 W1 W1.heap.size (fun _ => True) (.slice A2 l.length c2) l from Kd.V_mk (by rw [hy_, hc2]; exact Nat.sub_le_sub_right hroom_ _) (by rw [hA2]; exact hF_)); clear hF_ hroom_ hi0_ hsz0_ hc2 hA2 hy_; (try rw [List.length_cons] at hcut)) | (go_at_call 30; refine (diff_entries.calls k (fun _ => True) A2 c2 l _ _ _ HV.out HE.out).mono ?_; rintro ev W2 ⟨v2, v3, rfl, ho2, hv3, hb2⟩; obtain ⟨A3, c3, eo3⟩ := Kd.V_slice hv3; subst eo3; have HB2 := Aside0.mk (below_step HB.out hb2); have HO2 := Aside0.mk (Kd.R_mono (ok' := fun _ => True) (Kd.R_lower ho2 (below_size HB.out)) (fun _ _ => trivial)); have HV3 := Aside0.mk hv3; clear ho2 hv3 hb2; obtain ⟨ad3, ea3, hy0, hy1, hy2, hy3⟩ := at_T65 (Kd.V_reads' HV3.out).2.2 0 (by omega) (by rw [List.length_cons]; omega); subst ea3; rw [rd_zero] at hy0 hy1 hy2 hy3; simp only [Int.toNat_zero, Nat.zero_mul, Addr.add_zero'] at hy0 hy1 hy2 hy3))
        repeat (go_quiet (fail); try go_wp2)
        go_ret3
        exact ⟨_, rfl, Kd.R_nil _ _ _ _ _, (by repeat (first | exact HB2.out | apply pw_below_drewN))⟩
    · dsimp only at h
      rw [if_neg h6] at h
      have hR := Option.some.inj h
      clear h
      injection hR with e1 hR
      injection hR with e2 e3
      subst e1 e2 e3
      have h6b : (x.f0 != 6) = true := bne_iff_ne.2 h6
      have h6c : (x.f0 == 6) = false := beq_eq_false_iff_ne.2 h6
      go_enter Tryz.func15, Tryz.ntmps15
      go_wp2_with (go_at_call 29; refine (tok_All.calls k a0 _ _ _ _ HG.out HA.out).mono ?_; rintro ev W1 ⟨v0, rfl, ho, hb⟩; obtain ⟨A1, c1, eo⟩ := Kd.R_slice ho; subst eo; have HO := Aside0.mk ho; have HB := Aside0.mk hb; clear ho hb; obtain ⟨ad1, ea1, hx0, hx1, hx2, hx3⟩ := at_T65 (Kd.R_reads' HO.out).2.2 0 (by omega) (by rw [List.length_cons]; omega); subst ea1; rw [rd_zero] at hx0 hx1 hx2 hx3; simp only [Int.toNat_zero, Nat.zero_mul, Addr.add_zero'] at hx0 hx1 hx2 hx3; have hlp : ((0 : Int) < (((x :: l).length : Nat) : Int)) = True := eq_true (by rw [List.length_cons]; omega))
      repeat (go_quiet (fail); try go_wp2)
      go_ret3
      exact ⟨_, rfl, Kd.R_nil _ _ _ _ _, (by repeat (first | exact HB.out | apply pw_below_drewN))⟩
  · rw [if_neg he] at h
    have hR := Option.some.inj h
    clear h
    injection hR with e1 hR
    injection hR with e2 e3
    subst e1 e2 e3
    have heb : (e != 0) = true := bne_iff_ne.2 he
    have hec : (e == 0) = false := beq_eq_false_iff_ne.2 he
    go_enter Tryz.func15, Tryz.ntmps15
    go_wp2_with (go_at_call 29; refine (tok_All.calls k a0 _ _ _ _ HG.out HA.out).mono ?_; rintro ev W1 ⟨v0, rfl, ho, hb⟩; obtain ⟨A1, c1, eo⟩ := Kd.R_slice ho; subst eo; have HO := Aside0.mk ho; have HB := Aside0.mk hb; clear ho hb)
    go_ret3
    exact ⟨_, rfl, Kd.R_nil _ _ _ _ _, HB.out⟩
end Go.Proofs.YtdcldaknmenklaaGreatDoor.M
end
section
/- Laid by this session's program hbprint.py out of the translation: the equality of structs of one type. -/
namespace Go.Proofs.YtdcldaknmenklaaGreatDoor.M
open Go.RowKit Go.Proofs.YtdcldaknmenklaaGreatDoorW.PrintWords Go.Proofs.YtdcldaknmenklaaGreatDoorW.PrintLast Go.Proofs.YtdcldaknmenklaaGreatDoorW.PrintMore
attribute [local go_sem] max2_int min2_int max_two min_two max_three min_three max_four min_four
set_option linter.unusedVariables false
set_option linter.unusedSimpArgs false
theorem eqA34 (d : Nat) (w : World) (x0 y0 : Bool) (x1 y1 : Int) (x2 y2 : ByteArray) :
    (Op.equalIn (d + 2) 34 (.agg #[.bool x0, .int .i64 x1, .string x2]) (.agg #[.bool y0, .int .i64 y1, .string y2])).run Tryz.prog w = .ok (x0 == y0 && (x1 == y1 && (x2.toList == y2.toList))) w := by
  refine eqA_of Tryz.underlying34 (by kernel_rfl) ?_
  refine eqf_cons (by rfl) (by go_simp; rfl) (by go_simp; rfl) (by go_simp) ?_
  refine eqf_cons (by rfl) (by go_simp; rfl) (by go_simp; rfl) (by go_simp) ?_
  exact eqf_last (by rfl) (by go_simp; rfl) (by go_simp; rfl) (by go_simp)
end Go.Proofs.YtdcldaknmenklaaGreatDoor.M
end
section
/- Laid by this session's program hbprint.py out of the translation: the function hornbook/hornbookref17.Same and its contract. -/
namespace Go.Proofs.YtdcldaknmenklaaGreatDoor.M
open Go.RowKit Go.Proofs.YtdcldaknmenklaaGreatDoorW.PrintWords Go.Proofs.YtdcldaknmenklaaGreatDoorW.PrintLast Go.Proofs.YtdcldaknmenklaaGreatDoorW.PrintMore
attribute [local go_sem] max2_int min2_int max_two min_two max_three min_three max_four min_four
set_option linter.unusedVariables false
set_option linter.unusedSimpArgs false
attribute [local go_sem high] eqA34
def hornbookref17_Same.l0 : Nat → List (S34) → List (S34) → Int → Option (Bool)
  | 0, _, _, _ => none
  | k + 1, x0, x1, x5 => if x5 < (x0.length : Int) then (if 0 ≤ x5 then (if x5 < (x1.length : Int) then (if (!(((rd_T34 x0 x5).f0) == ((rd_T34 x1 x5).f0)) || (!(((rd_T34 x0 x5).f1) == ((rd_T34 x1 x5).f1)) || (!((((rd_T34 x0 x5).f2).toList) == (((rd_T34 x1 x5).f2).toList))))) = true then (some false) else (hornbookref17_Same.l0 k x0 x1 (wrap64 (x5 + 1)))) else (none)) else (none)) else (some true)
def hornbookref17_Same.f (k : Nat) (l0 : List (S34)) (l1 : List (S34)) : Option (Bool) := if (l0.length : Int) = (l1.length : Int) then (hornbookref17_Same.l0 k l0 l1 0) else (some false)
set_option maxHeartbeats 8000000 in
set_option maxRecDepth 100000 in
theorem hornbookref17_Same.calls (k : Nat) (A0 : Option Addr) (c0 : Nat) (l0 : List (S34)) (A1 : Option Addr) (c1 : Nat) (l1 : List (S34)) (r : Bool) (w : World) (hr0 : Kd.C k34 w A0 l0.length l0) (hc0 : l0.length ≤ c0) (hr1 : Kd.C k34 w A1 l1.length l1) (hc1 : l1.length ≤ c1) (h : hornbookref17_Same.f k l0 l1 = some r) :
    Calls Tryz.prog 19 #[.slice A0 l0.length c0, .slice A1 l1.length c1] w fun e w' => e = .returned (.bool r) ∧ Drawn0 w w' := by
  have hu34 := Tryz.underlying34
  have HR0 := Aside0.mk hr0
  have HC0 := Aside0.mk hc0
  clear hr0 hc0
  have HR1 := Aside0.mk hr1
  have HC1 := Aside0.mk hc1
  clear hr1 hc1
  have H : (if (l0.length : Int) = (l1.length : Int) then (hornbookref17_Same.l0 k l0 l1 0) else (some false)) = some r := h
  clear h
  by_cases c3 : (l0.length : Int) = (l1.length : Int)
  · rw [if_pos c3] at H
    have c3b0 : ((l0.length : Int) == (l1.length : Int)) = true := beq_iff_eq.mpr c3
    have c3b1 : ((l0.length : Int) != (l1.length : Int)) = false := bne_eq_false_iff_eq.mpr c3
    have c3b2 : (l0.length == l1.length) = true := by first | simpa using c3 | (simp at c3 ⊢; omega)
    clear c3
    have H' := Aside0.mk H
    clear H
    go_enter Tryz.func19, Tryz.ntmps19
    go_wp2
    repeat (go_quiet (fail); try go_wp2)
    go_loopg [5] k (fun kq v5 w' => ∃ (x5_1 : Int), v5 = .int .i64 x5_1 ∧ Aside0 (hornbookref17_Same.l0 kq l0 l1 x5_1 = some r) ∧ Aside0 (kq ≤ k) ∧ Drawn0 w w')
    case atStart => exact ⟨(0), (by first | rfl | (simp; done) | (simp [*]; done)), H', ⟨Nat.le_refl _⟩, by repeat (first | exact Drawn0.refl _ | apply Drawn0.step)⟩
    case round =>
      clear H'
      try clear c1
      try clear p2
      try clear c3
      try clear c3b0
      try clear c3b1
      try clear c3b2
      obtain ⟨x5_1, rfl, HA, HK1, ⟨m1, rfl⟩⟩ := hrel
      cases gk with
      | zero => exact absurd HA.out (by simp [hornbookref17_Same.l0])
      | succ k1 =>
        have H := HA.out
        clear HA
        simp only [hornbookref17_Same.l0] at H
        by_cases c4 : x5_1 < (l0.length : Int)
        · rw [if_pos c4] at H
          have c4b0 : decide (x5_1 < (l0.length : Int)) = true := decide_eq_true c4
          clear c4
          by_cases c5 : 0 ≤ x5_1
          · rw [if_pos c5] at H
            have c5b0 : decide (0 ≤ x5_1) = true := decide_eq_true c5
            clear c5
            by_cases c6 : x5_1 < (l1.length : Int)
            · rw [if_pos c6] at H
              have c6b0 : decide (x5_1 < (l1.length : Int)) = true := decide_eq_true c6
              clear c6
              by_cases c7 : (!(((rd_T34 l0 x5_1).f0) == ((rd_T34 l1 x5_1).f0)) || (!(((rd_T34 l0 x5_1).f1) == ((rd_T34 l1 x5_1).f1)) || (!((((rd_T34 l0 x5_1).f2).toList) == (((rd_T34 l1 x5_1).f2).toList))))) = true
              · rw [if_pos c7] at H
                have c7b0 : (!(((rd_T34 l0 x5_1).f0) == ((rd_T34 l1 x5_1).f0)) || (!(((rd_T34 l0 x5_1).f1) == ((rd_T34 l1 x5_1).f1)) || (!((((rd_T34 l0 x5_1).f2).toList) == (((rd_T34 l1 x5_1).f2).toList))))) = true := c7
                (try (have c7b1 : ¬ (((((rd_T34 l0 x5_1).f0) = ((rd_T34 l1 x5_1).f0)) ∧ ((((rd_T34 l0 x5_1).f1) = ((rd_T34 l1 x5_1).f1)) ∧ (((((rd_T34 l0 x5_1).f2).toList) = (((rd_T34 l1 x5_1).f2).toList)))))) := by first | simpa using c7 | (intro h_; simp [h_] at c7)))
                clear c7
                obtain rfl := Option.some.inj H
                have p631 : 0 ≤ (x5_1 : Int) := of_decide_eq_true (by first | (with_reducible assumption) | assumption)
                have q631 : x5_1 < (l0.length : Int) := of_decide_eq_true (by first | (with_reducible assumption) | assumption)
                obtain ⟨ad631, e631, hx631_0, hx631_1, hx631_2⟩ := at_T34 HR0.out x5_1 p631 q631
                cases e631
                replace p631 := eq_true p631
                replace q631 := eq_true q631
                have p632 : 0 ≤ (x5_1 : Int) := of_decide_eq_true (by first | (with_reducible assumption) | assumption)
                have q632 : x5_1 < (l1.length : Int) := of_decide_eq_true (by first | (with_reducible assumption) | assumption)
                obtain ⟨ad632, e632, hx632_0, hx632_1, hx632_2⟩ := at_T34 HR1.out x5_1 p632 q632
                cases e632
                replace p632 := eq_true p632
                replace q632 := eq_true q632
                go_wp2
                repeat (go_quiet (fail); try go_wp2)
                go_ret
                exact ⟨by first | rfl | (simp; done) | (simp [*]; done), by repeat (first | exact Drawn0.refl _ | apply Drawn0.step)⟩
              · rw [if_neg c7] at H
                have c7b0 : (!(((rd_T34 l0 x5_1).f0) == ((rd_T34 l1 x5_1).f0)) || (!(((rd_T34 l0 x5_1).f1) == ((rd_T34 l1 x5_1).f1)) || (!((((rd_T34 l0 x5_1).f2).toList) == (((rd_T34 l1 x5_1).f2).toList))))) = false := by simpa using c7
                (try (have c7b1 : (((((rd_T34 l0 x5_1).f0) = ((rd_T34 l1 x5_1).f0)) ∧ ((((rd_T34 l0 x5_1).f1) = ((rd_T34 l1 x5_1).f1)) ∧ (((((rd_T34 l0 x5_1).f2).toList) = (((rd_T34 l1 x5_1).f2).toList)))))) = True := eq_true (by simpa using c7)))
                (try (have c7b2 : ((((rd_T34 l0 x5_1).f0) = ((rd_T34 l1 x5_1).f0)) ∧ ((((rd_T34 l0 x5_1).f1) = ((rd_T34 l1 x5_1).f1)) ∧ (((((rd_T34 l0 x5_1).f2).toList) = (((rd_T34 l1 x5_1).f2).toList))))) := by simpa using c7))
                clear c7
                have H' := Aside0.mk H
                clear H
                have p631 : 0 ≤ (x5_1 : Int) := of_decide_eq_true (by first | (with_reducible assumption) | assumption)
                have q631 : x5_1 < (l0.length : Int) := of_decide_eq_true (by first | (with_reducible assumption) | assumption)
                obtain ⟨ad631, e631, hx631_0, hx631_1, hx631_2⟩ := at_T34 HR0.out x5_1 p631 q631
                cases e631
                replace p631 := eq_true p631
                replace q631 := eq_true q631
                have p632 : 0 ≤ (x5_1 : Int) := of_decide_eq_true (by first | (with_reducible assumption) | assumption)
                have q632 : x5_1 < (l1.length : Int) := of_decide_eq_true (by first | (with_reducible assumption) | assumption)
                obtain ⟨ad632, e632, hx632_0, hx632_1, hx632_2⟩ := at_T34 HR1.out x5_1 p632 q632
                cases e632
                replace p632 := eq_true p632
                replace q632 := eq_true q632
                go_wp2
                repeat (go_quiet (fail); try go_wp2)
                go_roundg k1
                case measure => have := HK1.out; omega
                case rel => exact ⟨(wrap64 (x5_1 + 1)), (by first | rfl | (simp; done) | (simp [*]; done)), H', ⟨by have := HK1.out; omega⟩, by repeat (first | exact Drawn0.refl _ | apply Drawn0.step)⟩
            · rw [if_neg c6] at H
              exact absurd H (by simp)
          · rw [if_neg c5] at H
            exact absurd H (by simp)
        · rw [if_neg c4] at H
          have c4b0 : decide (x5_1 < (l0.length : Int)) = false := decide_eq_false c4
          clear c4
          obtain rfl := Option.some.inj H
          go_wp2
          repeat (go_quiet (fail); try go_wp2)
          go_ret
          exact ⟨by first | rfl | (simp; done) | (simp [*]; done), by repeat (first | exact Drawn0.refl _ | apply Drawn0.step)⟩
  · rw [if_neg c3] at H
    have c3b0 : ((l0.length : Int) == (l1.length : Int)) = false := beq_eq_false_iff_ne.mpr c3
    have c3b1 : ((l0.length : Int) != (l1.length : Int)) = true := bne_iff_ne.mpr c3
    have c3b2 : (l0.length == l1.length) = false := by first | simpa using c3 | (simp at c3 ⊢; omega)
    obtain rfl := Option.some.inj H
    go_enter Tryz.func19, Tryz.ntmps19
    go_wp2
    repeat (go_quiet (fail); try go_wp2)
    go_ret
    exact ⟨by first | rfl | (simp; done) | (simp [*]; done), by repeat (first | exact Drawn0.refl _ | apply Drawn0.step)⟩
end Go.Proofs.YtdcldaknmenklaaGreatDoor.M
end
section
/- Laid by this session's program hbprint.py out of the translation: the function hornbook/hornbooklaw17.theirs and its contract. -/
namespace Go.Proofs.YtdcldaknmenklaaGreatDoor.M
open Go.RowKit Go.Proofs.YtdcldaknmenklaaGreatDoorW.PrintWords Go.Proofs.YtdcldaknmenklaaGreatDoorW.PrintLast Go.Proofs.YtdcldaknmenklaaGreatDoorW.PrintMore
attribute [local go_sem] max2_int min2_int max_two min_two max_three min_three max_four min_four
set_option linter.unusedVariables false
set_option linter.unusedSimpArgs false
def hornbooklaw17_theirs.l0 : Nat → List (S32) → List (S34) → Int → Option ((List (S34)))
  | 0, _, _, _ => none
  | k + 1, x0, x3, x4 => if x4 < (x0.length : Int) then (if 0 ≤ x4 then (if x3.length < 4398046511104 then (hornbooklaw17_theirs.l0 k x0 (x3 ++ [(⟨(rd_T32 x0 x4).f0, (rd_T32 x0 x4).f1, (rd_T32 x0 x4).f2⟩ : S34)]) (wrap64 (x4 + 1))) else (none)) else (none)) else (some x3)
def hornbooklaw17_theirs.f (k : Nat) (l0 : List (S32)) : Option ((List (S34))) := hornbooklaw17_theirs.l0 k l0 ([] : List (S34)) 0
def hornbooklaw17_theirs.T5 : Bool × List (List Nat × List Nat) := (true, [([], []), ([], []), ([], []), ([1, 2], [1, 2]), ([3], [3]), ([4], [4]), ([], []), ([], []), ([6, 7], [6, 7]), ([8], [8]), ([9], [9]), ([], []), ([], []), ([11, 12], [11, 12]), ([13], [13]), ([14], [14]), ([5, 10, 15], [5, 10, 15]), ([16], [16]), ([0, 17], [0, 17]), ([18, 18, 0, 1, 2, 3, 4, 5, 6, 7, 8, 9, 10, 11, 12, 13, 14, 15, 16, 17, 18], [0, 18])])
def hornbooklaw17_theirs.B5 : List Nat := [0, 0, 0, 6, 14, 30, 0, 0, 192, 448, 960, 0, 0, 6144, 14336, 30720, 65534, 131070, 262143, 524287]
theorem hornbooklaw17_theirs.tab5 : rtab .any (opsOf Tryz.f20 5) = hornbooklaw17_theirs.T5 := by kernel_rfl
theorem hornbooklaw17_theirs.bits5 : waitsOk hornbooklaw17_theirs.T5.2 hornbooklaw17_theirs.B5 = true := by kernel_rfl
set_option maxHeartbeats 8000000 in
set_option maxRecDepth 100000 in
theorem hornbooklaw17_theirs.calls (k : Nat) (A0 : Option Addr) (c0 : Nat) (l0 : List (S32)) (r : List (S34)) (w : World) (hr0 : Kd.C k32 w A0 l0.length l0) (hc0 : l0.length ≤ c0) (h : hornbooklaw17_theirs.f k l0 = some r) :
    Calls Tryz.prog 20 #[.slice A0 l0.length c0] w fun e w' => ∃ v0_ : Value, e = .returned (v0_) ∧ Kd.R k34 34 w' w.heap.size (fun _ => True) v0_ r ∧ Below w.heap.size w w' := by
  have hu34 := Tryz.underlying34
  have HR0 := Aside0.mk hr0
  have HC0 := Aside0.mk hc0
  clear hr0 hc0
  have HB := Aside0.mk (Below.refl w.heap.size w)
  have H : (hornbooklaw17_theirs.l0 k l0 ([] : List (S34)) 0) = some r := h
  clear h
  have H' := Aside0.mk H
  clear H
  go_enter Tryz.func20, Tryz.ntmps20
  go_wp2
  go_loopg [3, 4] k (fun kq v3 v4 w' => ∃ (x3_1 : List (S34)) (x4_1 : Int), v4 = .int .i64 x4_1 ∧ Aside0 (hornbooklaw17_theirs.l0 kq l0 x3_1 x4_1 = some r) ∧ Aside0 (kq ≤ k) ∧ Aside0 (Kd.R k34 34 w' w.heap.size (fun _ => True) v3 x3_1) ∧ Aside0 (Below w.heap.size w w'))
  case atStart => exact ⟨(([] : List (S34))), (0), (by first | rfl | (simp; done) | (simp [*]; done)), H', ⟨Nat.le_refl _⟩, ⟨by first | exact Kd.R_nil _ _ _ _ _ | exact Kd.N_nil _ _ _ _ _ | exact Kd.V_nil _ _ _ _ _ | exact Kd.Q_nil _ _ _ _ _ | exact Kd.S_nil _ _ _ _ _⟩, ⟨by repeat (first | (with_reducible first | exact HB.out | apply below_alloc | apply pw_below_drewN | apply below_drew1) | exact HB.out)⟩⟩
  case round =>
    clear H'
    obtain ⟨x3_1, x4_1, rfl, HA, HK1, HO_3, HB⟩ := hrel
    cases gk with
    | zero => exact absurd HA.out (by simp [hornbooklaw17_theirs.l0])
    | succ k1 =>
      have H := HA.out
      clear HA
      simp only [hornbooklaw17_theirs.l0] at H
      by_cases c2 : x4_1 < (l0.length : Int)
      · rw [if_pos c2] at H
        have c2b0 : decide (x4_1 < (l0.length : Int)) = true := decide_eq_true c2
        clear c2
        by_cases c3 : 0 ≤ x4_1
        · rw [if_pos c3] at H
          have c3b0 : decide (0 ≤ x4_1) = true := decide_eq_true c3
          clear c3
          by_cases c4 : x3_1.length < 4398046511104
          · rw [if_pos c4] at H
            have LMc4 := Aside0.mk c4
            clear c4
            obtain ⟨y636, hy636⟩ : ∃ y_ : List (S34), y_ = (x3_1 ++ [(⟨(rd_T32 l0 x4_1).f0, (rd_T32 l0 x4_1).f1, (rd_T32 l0 x4_1).f2⟩ : S34)]) := ⟨_, rfl⟩
            replace H : (hornbooklaw17_theirs.l0 k1 l0 y636 (wrap64 (x4_1 + 1))) = some r := by first | (rw [hy636]; with_reducible exact H) | (have H2_ := (Option.bind_some _ _).symm.trans H; rw [hy636]; with_reducible exact H2_) | (have H2_ := (Option.bind_some _ _).symm.trans H; with_reducible exact H2_) | with_reducible exact H | (rw [hy636]; exact H) | exact H
            have Ny636 := Aside0.mk hy636
            clear hy636
            have H' := Aside0.mk H
            clear H
            try go_wp2
            have n0_ := Aside0.mk (Kd.R_drew HO_3.out)
            have n1_ := Aside0.mk (below_drew1 HB.out)
            clear HO_3
            clear HB
            have HO_3 := n0_
            have HB := n1_
            clear n0_ n1_
            have p633 : 0 ≤ (x4_1 : Int) := of_decide_eq_true (by first | (with_reducible assumption) | assumption)
            have q633 : x4_1 < (l0.length : Int) := of_decide_eq_true (by first | (with_reducible assumption) | assumption)
            obtain ⟨ad633, e633, hx633_0, hx633_1, hx633_2⟩ := at_T32 HR0.out x4_1 p633 q633
            have hw633_2 := hx633_2
            have hw633_1 := hx633_1
            have hw633_0 := hx633_0
            cases e633
            replace hx633_0 := (HB.out.cell (World.block_lt_of_cell? w _ hx633_0)).trans hx633_0
            replace hx633_1 := (HB.out.cell (World.block_lt_of_cell? w _ hx633_1)).trans hx633_1
            replace hx633_2 := (HB.out.cell (World.block_lt_of_cell? w _ hx633_2)).trans hx633_2
            replace p633 := eq_true p633
            replace q633 := eq_true q633
            have p634 : 0 ≤ (x4_1 : Int) := of_decide_eq_true (by first | (with_reducible assumption) | assumption)
            have q634 : x4_1 < (l0.length : Int) := of_decide_eq_true (by first | (with_reducible assumption) | assumption)
            obtain ⟨ad634, e634, hx634_0, hx634_1, hx634_2⟩ := at_T32 HR0.out x4_1 p634 q634
            have hw634_2 := hx634_2
            have hw634_1 := hx634_1
            have hw634_0 := hx634_0
            obtain rfl : ad633 = ad634 := (by injection e634)
            replace hx634_0 := (HB.out.cell (World.block_lt_of_cell? w _ hx634_0)).trans hx634_0
            replace hx634_1 := (HB.out.cell (World.block_lt_of_cell? w _ hx634_1)).trans hx634_1
            replace hx634_2 := (HB.out.cell (World.block_lt_of_cell? w _ hx634_2)).trans hx634_2
            replace p634 := eq_true p634
            replace q634 := eq_true q634
            have p635 : 0 ≤ (x4_1 : Int) := of_decide_eq_true (by first | (with_reducible assumption) | assumption)
            have q635 : x4_1 < (l0.length : Int) := of_decide_eq_true (by first | (with_reducible assumption) | assumption)
            obtain ⟨ad635, e635, hx635_0, hx635_1, hx635_2⟩ := at_T32 HR0.out x4_1 p635 q635
            have hw635_2 := hx635_2
            have hw635_1 := hx635_1
            have hw635_0 := hx635_0
            obtain rfl : ad633 = ad635 := (by injection e635)
            replace hx635_0 := (HB.out.cell (World.block_lt_of_cell? w _ hx635_0)).trans hx635_0
            replace hx635_1 := (HB.out.cell (World.block_lt_of_cell? w _ hx635_1)).trans hx635_1
            replace hx635_2 := (HB.out.cell (World.block_lt_of_cell? w _ hx635_2)).trans hx635_2
            replace p635 := eq_true p635
            replace q635 := eq_true q635
            refine start_ (n := 20) (S := fun w' => w'.cell? (ad633.add ((x4_1).toNat * 3)) = some (.bool ((rd_T32 l0 x4_1).f0)) ∧ w'.cell? ⟨(ad633.add ((x4_1).toNat * 3)).block, (ad633.add ((x4_1).toNat * 3)).off + 1, none⟩ = some (.int .i64 ((rd_T32 l0 x4_1).f1)) ∧ w'.cell? ⟨(ad633.add ((x4_1).toNat * 3)).block, (ad633.add ((x4_1).toNat * 3)).off + 2, none⟩ = some (.string ((rd_T32 l0 x4_1).f2)) ∧ w'.cell? (ad633.add ((x4_1).toNat * 3)) = some (.bool ((rd_T32 l0 x4_1).f0)) ∧ w'.cell? ⟨(ad633.add ((x4_1).toNat * 3)).block, (ad633.add ((x4_1).toNat * 3)).off + 1, none⟩ = some (.int .i64 ((rd_T32 l0 x4_1).f1)) ∧ w'.cell? ⟨(ad633.add ((x4_1).toNat * 3)).block, (ad633.add ((x4_1).toNat * 3)).off + 2, none⟩ = some (.string ((rd_T32 l0 x4_1).f2)) ∧ w'.cell? (ad633.add ((x4_1).toNat * 3)) = some (.bool ((rd_T32 l0 x4_1).f0)) ∧ w'.cell? ⟨(ad633.add ((x4_1).toNat * 3)).block, (ad633.add ((x4_1).toNat * 3)).off + 1, none⟩ = some (.int .i64 ((rd_T32 l0 x4_1).f1)) ∧ w'.cell? ⟨(ad633.add ((x4_1).toNat * 3)).block, (ad633.add ((x4_1).toNat * 3)).off + 2, none⟩ = some (.string ((rd_T32 l0 x4_1).f2))) (ds := []) #[false, false, false, false, false, false, false, false, false, false, false, false, false, false, false, false, false, false, false, false] (by kernel_rfl) rfl rfl ⟨((HB.out.cell (World.block_lt_of_cell? w _ hw633_0)).trans hw633_0), ((HB.out.cell (World.block_lt_of_cell? w _ hw633_1)).trans hw633_1), ((HB.out.cell (World.block_lt_of_cell? w _ hw633_2)).trans hw633_2), ((HB.out.cell (World.block_lt_of_cell? w _ hw634_0)).trans hw634_0), ((HB.out.cell (World.block_lt_of_cell? w _ hw634_1)).trans hw634_1), ((HB.out.cell (World.block_lt_of_cell? w _ hw634_2)).trans hw634_2), ((HB.out.cell (World.block_lt_of_cell? w _ hw635_0)).trans hw635_0), ((HB.out.cell (World.block_lt_of_cell? w _ hw635_1)).trans hw635_1), ((HB.out.cell (World.block_lt_of_cell? w _ hw635_2)).trans hw635_2)⟩ (fun hHeld => ?_); refine with_tabW hornbooklaw17_theirs.tab5 hornbooklaw17_theirs.bits5 (fun HT_ HW_ => ?_)
            generalize wr.drew = w5 at HO_3 HB hx633_0 hx633_1 hx633_2 hx634_0 hx634_1 hx634_2 hx635_0 hx635_1 hx635_2 hHeld ⊢
            refine pure_ (i := 0) (N := some 11) (v := ?_) (a' := ?_) #[true, false, false, false, false, false, false, false, false, false, false, false, false, false, false, false, false, false, false, false] rfl rfl (any_of HT_.out (by kernel_rfl)) (fun _ _ _ h => h) (Or.inl ⟨by rfl, ?_⟩) ?_ ?_
            rotate_left
            · intro w'
              go_simp
              with_reducible rfl
            rotate_left
            · simp only [Act.put, List.setIfInBounds_toArray, List.set_cons_zero, List.set_cons_succ, i64_w, i32_w]
              rfl
            refine pure_ (i := 1) (N := some 12) (v := ?_) (a' := ?_) #[true, true, false, false, false, false, false, false, false, false, false, false, false, false, false, false, false, false, false, false] rfl rfl (any_of HT_.out (by kernel_rfl)) (fun _ _ _ h => h) (Or.inl ⟨by rfl, ?_⟩) ?_ ?_
            rotate_left
            · intro w'
              go_simp
              with_reducible rfl
            rotate_left
            · simp only [Act.put, List.setIfInBounds_toArray, List.set_cons_zero, List.set_cons_succ, i64_w, i32_w]
              rfl
            refine pure_ (i := 2) (N := some 13) (v := ?_) (a' := ?_) #[true, true, true, false, false, false, false, false, false, false, false, false, false, false, false, false, false, false, false, false] rfl rfl (any_of HT_.out (by kernel_rfl)) (fun _ _ _ h => h) (Or.inl ⟨by rfl, ?_⟩) ?_ ?_
            rotate_left
            · intro w'
              go_simp
              with_reducible rfl
            rotate_left
            · simp only [Act.put, List.setIfInBounds_toArray, List.set_cons_zero, List.set_cons_succ, i64_w, i32_w]
              rfl
            refine pure_ (i := 3) (N := some 14) (v := ?_) (a' := ?_) #[true, true, true, true, false, false, false, false, false, false, false, false, false, false, false, false, false, false, false, false] rfl rfl (any_of HT_.out (by kernel_rfl)) (fun _ _ _ h => h) (Or.inl ⟨by rfl, ?_⟩) ?_ ?_
            rotate_left
            · intro w'
              go_simp
              with_reducible rfl
            rotate_left
            · simp only [Act.put, List.setIfInBounds_toArray, List.set_cons_zero, List.set_cons_succ, i64_w, i32_w]
              rfl
            refine pure_ (i := 4) (N := some 15) (v := ?_) (a' := ?_) #[true, true, true, true, true, false, false, false, false, false, false, false, false, false, false, false, false, false, false, false] rfl rfl (any_of HT_.out (by kernel_rfl)) (fun _ _ _ h => h) (Or.inl ⟨by rfl, ?_⟩) ?_ ?_
            rotate_left
            · intro w'
              go_simp
              with_reducible rfl
            rotate_left
            · simp only [Act.put, List.setIfInBounds_toArray, List.set_cons_zero, List.set_cons_succ, i64_w, i32_w]
              rfl
            refine pure_ (i := 6) (N := some 17) (v := ?_) (a' := ?_) #[true, true, true, true, true, false, true, false, false, false, false, false, false, false, false, false, false, false, false, false] rfl rfl (any_of HT_.out (by kernel_rfl)) (fun _ _ _ h => h) (Or.inl ⟨by rfl, ?_⟩) ?_ ?_
            rotate_left
            · intro w'
              go_simp
              with_reducible rfl
            rotate_left
            · simp only [Act.put, List.setIfInBounds_toArray, List.set_cons_zero, List.set_cons_succ, i64_w, i32_w]
              rfl
            refine pure_ (i := 7) (N := some 18) (v := ?_) (a' := ?_) #[true, true, true, true, true, false, true, true, false, false, false, false, false, false, false, false, false, false, false, false] rfl rfl (any_of HT_.out (by kernel_rfl)) (fun _ _ _ h => h) (Or.inl ⟨by rfl, ?_⟩) ?_ ?_
            rotate_left
            · intro w'
              go_simp
              with_reducible rfl
            rotate_left
            · simp only [Act.put, List.setIfInBounds_toArray, List.set_cons_zero, List.set_cons_succ, i64_w, i32_w]
              rfl
            refine pure_ (i := 8) (N := some 19) (v := ?_) (a' := ?_) #[true, true, true, true, true, false, true, true, true, false, false, false, false, false, false, false, false, false, false, false] rfl rfl (any_of HT_.out (by kernel_rfl)) (fun _ _ _ h => h) (Or.inl ⟨by rfl, ?_⟩) ?_ ?_
            rotate_left
            · intro w'
              go_simp
              with_reducible rfl
            rotate_left
            · simp only [Act.put, List.setIfInBounds_toArray, List.set_cons_zero, List.set_cons_succ, i64_w, i32_w]
              rfl
            refine pure_ (i := 9) (N := some 20) (v := ?_) (a' := ?_) #[true, true, true, true, true, false, true, true, true, true, false, false, false, false, false, false, false, false, false, false] rfl rfl (any_of HT_.out (by kernel_rfl)) (fun _ _ _ h => h) (Or.inl ⟨by rfl, ?_⟩) ?_ ?_
            rotate_left
            · intro w'
              go_simp
              with_reducible rfl
            rotate_left
            · simp only [Act.put, List.setIfInBounds_toArray, List.set_cons_zero, List.set_cons_succ, i64_w, i32_w]
              rfl
            refine pure_ (i := 11) (N := some 22) (v := ?_) (a' := ?_) #[true, true, true, true, true, false, true, true, true, true, false, true, false, false, false, false, false, false, false, false] rfl rfl (any_of HT_.out (by kernel_rfl)) (fun _ _ _ h => h) (Or.inl ⟨by rfl, ?_⟩) ?_ ?_
            rotate_left
            · intro w'
              go_simp
              with_reducible rfl
            rotate_left
            · simp only [Act.put, List.setIfInBounds_toArray, List.set_cons_zero, List.set_cons_succ, i64_w, i32_w]
              rfl
            refine pure_ (i := 12) (N := some 23) (v := ?_) (a' := ?_) #[true, true, true, true, true, false, true, true, true, true, false, true, true, false, false, false, false, false, false, false] rfl rfl (any_of HT_.out (by kernel_rfl)) (fun _ _ _ h => h) (Or.inl ⟨by rfl, ?_⟩) ?_ ?_
            rotate_left
            · intro w'
              go_simp
              with_reducible rfl
            rotate_left
            · simp only [Act.put, List.setIfInBounds_toArray, List.set_cons_zero, List.set_cons_succ, i64_w, i32_w]
              rfl
            refine pure_ (i := 13) (N := some 24) (v := ?_) (a' := ?_) #[true, true, true, true, true, false, true, true, true, true, false, true, true, true, false, false, false, false, false, false] rfl rfl (any_of HT_.out (by kernel_rfl)) (fun _ _ _ h => h) (Or.inl ⟨by rfl, ?_⟩) ?_ ?_
            rotate_left
            · intro w'
              go_simp
              with_reducible rfl
            rotate_left
            · simp only [Act.put, List.setIfInBounds_toArray, List.set_cons_zero, List.set_cons_succ, i64_w, i32_w]
              rfl
            refine pure_ (i := 14) (N := some 25) (v := ?_) (a' := ?_) #[true, true, true, true, true, false, true, true, true, true, false, true, true, true, true, false, false, false, false, false] rfl rfl (any_of HT_.out (by kernel_rfl)) (fun _ _ _ h => h) (Or.inl ⟨by rfl, ?_⟩) ?_ ?_
            rotate_left
            · intro w'
              go_simp
              with_reducible rfl
            rotate_left
            · simp only [Act.put, List.setIfInBounds_toArray, List.set_cons_zero, List.set_cons_succ, i64_w, i32_w]
              rfl
            refine take_ (i := 5) (N := some 16) (v := ?_) (a' := ?_) #[true, true, true, true, true, true, true, true, true, true, false, true, true, true, true, false, false, false, false, false] rfl rfl (take_ofW HT_.out HW_.out (by kernel_rfl)) (fun _ _ _ h => h) (Or.inl ⟨by rfl, ?_⟩) hHeld ?_ ?_
            rotate_left
            · rintro w' ⟨s0, s1, s2, s3, s4, s5, s6, s7, s8⟩
              go_simp
              with_reducible rfl
            rotate_left
            · simp only [Act.put, List.setIfInBounds_toArray, List.set_cons_zero, List.set_cons_succ, i64_w, i32_w]
              rfl
            refine take_ (i := 10) (N := some 21) (v := ?_) (a' := ?_) #[true, true, true, true, true, true, true, true, true, true, true, true, true, true, true, false, false, false, false, false] rfl rfl (take_ofW HT_.out HW_.out (by kernel_rfl)) (fun _ _ _ h => h) (Or.inl ⟨by rfl, ?_⟩) hHeld ?_ ?_
            rotate_left
            · rintro w' ⟨s0, s1, s2, s3, s4, s5, s6, s7, s8⟩
              go_simp
              with_reducible rfl
            rotate_left
            · simp only [Act.put, List.setIfInBounds_toArray, List.set_cons_zero, List.set_cons_succ, i64_w, i32_w]
              rfl
            refine take_ (i := 15) (N := some 26) (v := ?_) (a' := ?_) #[true, true, true, true, true, true, true, true, true, true, true, true, true, true, true, true, false, false, false, false] rfl rfl (take_ofW HT_.out HW_.out (by kernel_rfl)) (fun _ _ _ h => h) (Or.inl ⟨by rfl, ?_⟩) hHeld ?_ ?_
            rotate_left
            · rintro w' ⟨s0, s1, s2, s3, s4, s5, s6, s7, s8⟩
              go_simp
              with_reducible rfl
            rotate_left
            · simp only [Act.put, List.setIfInBounds_toArray, List.set_cons_zero, List.set_cons_succ, i64_w, i32_w]
              rfl
            refine pure_ (i := 16) (N := some 27) (v := ?_) (a' := ?_) #[true, true, true, true, true, true, true, true, true, true, true, true, true, true, true, true, true, false, false, false] rfl rfl (any_of HT_.out (by kernel_rfl)) (fun _ _ _ h => h) (Or.inl ⟨by rfl, ?_⟩) ?_ ?_
            rotate_left
            · intro w'
              go_simp
              with_reducible rfl
            rotate_left
            · simp only [Act.put, List.setIfInBounds_toArray, List.set_cons_zero, List.set_cons_succ, i64_w, i32_w]
              rfl
            refine one_ (i := 17) (N := some 28) #[true, true, true, true, true, true, true, true, true, true, true, true, true, true, true, true, true, true, false, false] rfl rfl (one_of HT_.out (by kernel_rfl)) (by decide) (fun K hK => ?_)
            refine value_ (w1 := ?_) (v := ?_) (by rfl) rfl ?_ ?_
            rotate_left 2
            · go_simp
              constructor
              · rfl
              · rfl
            refine hK.out _ _ ⟨(World.cell?_alloc_lt _ _ _ (World.block_lt_of_cell? _ _ (((HB.out.cell (World.block_lt_of_cell? w _ hw633_0)).trans hw633_0)))).trans (((HB.out.cell (World.block_lt_of_cell? w _ hw633_0)).trans hw633_0)), (World.cell?_alloc_lt _ _ _ (World.block_lt_of_cell? _ _ (((HB.out.cell (World.block_lt_of_cell? w _ hw633_1)).trans hw633_1)))).trans (((HB.out.cell (World.block_lt_of_cell? w _ hw633_1)).trans hw633_1)), (World.cell?_alloc_lt _ _ _ (World.block_lt_of_cell? _ _ (((HB.out.cell (World.block_lt_of_cell? w _ hw633_2)).trans hw633_2)))).trans (((HB.out.cell (World.block_lt_of_cell? w _ hw633_2)).trans hw633_2)), (World.cell?_alloc_lt _ _ _ (World.block_lt_of_cell? _ _ (((HB.out.cell (World.block_lt_of_cell? w _ hw634_0)).trans hw634_0)))).trans (((HB.out.cell (World.block_lt_of_cell? w _ hw634_0)).trans hw634_0)), (World.cell?_alloc_lt _ _ _ (World.block_lt_of_cell? _ _ (((HB.out.cell (World.block_lt_of_cell? w _ hw634_1)).trans hw634_1)))).trans (((HB.out.cell (World.block_lt_of_cell? w _ hw634_1)).trans hw634_1)), (World.cell?_alloc_lt _ _ _ (World.block_lt_of_cell? _ _ (((HB.out.cell (World.block_lt_of_cell? w _ hw634_2)).trans hw634_2)))).trans (((HB.out.cell (World.block_lt_of_cell? w _ hw634_2)).trans hw634_2)), (World.cell?_alloc_lt _ _ _ (World.block_lt_of_cell? _ _ (((HB.out.cell (World.block_lt_of_cell? w _ hw635_0)).trans hw635_0)))).trans (((HB.out.cell (World.block_lt_of_cell? w _ hw635_0)).trans hw635_0)), (World.cell?_alloc_lt _ _ _ (World.block_lt_of_cell? _ _ (((HB.out.cell (World.block_lt_of_cell? w _ hw635_1)).trans hw635_1)))).trans (((HB.out.cell (World.block_lt_of_cell? w _ hw635_1)).trans hw635_1)), (World.cell?_alloc_lt _ _ _ (World.block_lt_of_cell? _ _ (((HB.out.cell (World.block_lt_of_cell? w _ hw635_2)).trans hw635_2)))).trans (((HB.out.cell (World.block_lt_of_cell? w _ hw635_2)).trans hw635_2))⟩ (fun hHeld => ?_)
            clear hK K
            refine norm_ (a' := ?_) ?_ ?_
            rotate_left
            · show Act.put _ (some 28) _ = _
              simp only [Act.put, List.setIfInBounds_toArray, List.set_cons_zero, List.set_cons_succ, i64_w, i32_w]
              rfl
            refine one_ (i := 18) (N := some 29) #[true, true, true, true, true, true, true, true, true, true, true, true, true, true, true, true, true, true, true, false] rfl rfl (one_of HT_.out (by kernel_rfl)) (by decide) (fun K hK => ?_)
            refine Kd.R_append_step k34 (w0 := w) w.heap.size (by rfl) (.tmp 11) (.tmp 28) 22 34 (.agg #[(.bool false), (.int .i64 0), (.string ⟨#[]⟩)]) 32 rfl Tryz.underlying22 info34 rfl (by decide) (by omega) u3 x3_1 (⟨(rd_T32 l0 x4_1).f0, (rd_T32 l0 x4_1).f1, (rd_T32 l0 x4_1).f2⟩ : S34) [.bool ((rd_T32 l0 x4_1).f0), .int .i64 ((rd_T32 l0 x4_1).f1), .string ((rd_T32 l0 x4_1).f2)] (fun _ => True) (fun _ => False) rfl rfl ?aP (fun _ hk => hk.elim) ?aF ?aO ?aB ?aS ?aL ?_
            (case aP => exact k34_mkM _ _ _ (⟨(rd_T32 l0 x4_1).f0, (rd_T32 l0 x4_1).f1, (rd_T32 l0 x4_1).f2⟩ : S34))
            (case aB => exact (by repeat (first | (with_reducible first | exact HB.out | apply below_alloc | apply pw_below_drewN | apply below_drew1) | exact HB.out)))
            (case aF => exact (fun _ _ => trivial))
            (case aO => exact (by (with_reducible repeat (first | apply Kd.R_alloc | apply Kd.R_drewN | apply Kd.R_drew)); exact HO_3.out))
            (case aS => exact (below_size (by repeat (first | (with_reducible first | exact HB.out | apply below_alloc | apply pw_below_drewN | apply below_drew1) | exact HB.out))))
            (case aL => have := LMc4.out; omega)
            intro v637 w6 ho hb hg hat
            rw [← Ny636.out] at ho
            have n0_ := Aside0.mk (hb)
            have n1_ := Aside0.mk (ho)
            clear HB
            clear HO_3
            have HB := n0_
            have HO638 := n1_
            clear n0_ n1_
            clear ho hb hg hat
            refine hK.out _ _ ⟨((HB.out.cell (World.block_lt_of_cell? w _ hw633_0)).trans hw633_0), ((HB.out.cell (World.block_lt_of_cell? w _ hw633_1)).trans hw633_1), ((HB.out.cell (World.block_lt_of_cell? w _ hw633_2)).trans hw633_2), ((HB.out.cell (World.block_lt_of_cell? w _ hw634_0)).trans hw634_0), ((HB.out.cell (World.block_lt_of_cell? w _ hw634_1)).trans hw634_1), ((HB.out.cell (World.block_lt_of_cell? w _ hw634_2)).trans hw634_2), ((HB.out.cell (World.block_lt_of_cell? w _ hw635_0)).trans hw635_0), ((HB.out.cell (World.block_lt_of_cell? w _ hw635_1)).trans hw635_1), ((HB.out.cell (World.block_lt_of_cell? w _ hw635_2)).trans hw635_2)⟩ (fun hHeld => ?_)
            clear hK K
            refine norm_ (a' := ?_) ?_ ?_
            rotate_left
            · show Act.put _ (some 29) _ = _
              simp only [Act.put, List.setIfInBounds_toArray, List.set_cons_zero, List.set_cons_succ, i64_w, i32_w]
              rfl
            refine pure_ (i := 19) (N := some 3) (v := ?_) (a' := ?_) #[true, true, true, true, true, true, true, true, true, true, true, true, true, true, true, true, true, true, true, true] rfl rfl (any_of HT_.out (by kernel_rfl)) (fun _ _ _ h => h) (Or.inl ⟨by rfl, ?_⟩) ?_ ?_
            rotate_left
            · intro w'
              go_simp
              with_reducible rfl
            rotate_left
            · simp only [Act.put, List.setIfInBounds_toArray, List.set_cons_zero, List.set_cons_succ, i64_w, i32_w]
              rfl
            refine done_ (done_of HT_.out (by kernel_rfl)) ?_
            try go_wp2
            go_roundg k1
            case measure => have := HK1.out; omega
            case rel => exact ⟨(y636), (wrap64 (x4_1 + 1)), (by first | rfl | (simp; done) | (simp [*]; done)), H', ⟨by have := HK1.out; omega⟩, ⟨by (with_reducible repeat (first | apply Kd.R_alloc | apply Kd.R_drewN | apply Kd.R_drew)); exact HO638.out⟩, ⟨by repeat (first | (with_reducible first | exact HB.out | apply below_alloc | apply pw_below_drewN | apply below_drew1) | exact HB.out)⟩⟩
          · rw [if_neg c4] at H
            exact absurd H (by simp)
        · rw [if_neg c3] at H
          exact absurd H (by simp)
      · rw [if_neg c2] at H
        have c2b0 : decide (x4_1 < (l0.length : Int)) = false := decide_eq_false c2
        clear c2
        obtain rfl := Option.some.inj H
        go_wp2
        go_ret
        exact ⟨_, by first | rfl | (simp [errW_none, errW_some] <;> rfl) | (simp [*, errW_none, errW_some] <;> rfl), by (with_reducible repeat (first | apply Kd.R_alloc | apply Kd.R_drewN | apply Kd.R_drew)); exact HO_3.out, by repeat (first | (with_reducible first | exact HB.out | apply below_alloc | apply pw_below_drewN | apply below_drew1) | exact HB.out)⟩
end Go.Proofs.YtdcldaknmenklaaGreatDoor.M
end
section
/- Laid by this session's program hbprint.py out of the translation: the function hornbook/diff.Of and its contract. -/
namespace Go.Proofs.YtdcldaknmenklaaGreatDoor.M
open Go.RowKit Go.Proofs.YtdcldaknmenklaaGreatDoorW.PrintWords Go.Proofs.YtdcldaknmenklaaGreatDoorW.PrintLast Go.Proofs.YtdcldaknmenklaaGreatDoorW.PrintMore
attribute [local go_sem] max2_int min2_int max_two min_two max_three min_three max_four min_four
set_option linter.unusedVariables false
set_option linter.unusedSimpArgs false
mutual
def diff_Of.j0 : Nat → List ByteArray → List ByteArray → Bool → Option ((List (S32)))
  | 0, _, _, _ => none
  | k + 1, x0, x1, x17 => if x17 = true then (some ([] : List (S32))) else (diff_Of.l0 k x0 ([] : List (S32)) false x1 (x1.length : Int) 0)
def diff_Of.l0 : Nat → List ByteArray → List (S32) → Bool → List ByteArray → Int → Int → Option ((List (S32)))
  | 0, _, _, _, _, _, _ => none
  | k + 1, x0, x5, x6, x18, x19, x20 => if x20 < x19 then (if 0 ≤ x20 then (if x20 < (x18.length : Int) then (if x20 < (x0.length : Int) then (if (rdOf ByteArray.empty x0 x20).toList = (rdOf ByteArray.empty x18 x20).toList then (diff_Of.j2 k x0 x5 x20 (rdOf ByteArray.empty x18 x20) ((rdOf ByteArray.empty x0 x20).toList != (rdOf ByteArray.empty x18 x20).toList) x18 x19 x20 false) else (diff_Of.j2 k x0 x5 x20 (rdOf ByteArray.empty x18 x20) ((rdOf ByteArray.empty x0 x20).toList != (rdOf ByteArray.empty x18 x20).toList) x18 x19 x20 (!x6))) else (none)) else (none)) else (none)) else (some x5)
def diff_Of.j2 : Nat → List ByteArray → List (S32) → Int → ByteArray → Bool → List ByteArray → Int → Int → Bool → Option ((List (S32)))
  | 0, _, _, _, _, _, _, _, _, _ => none
  | k + 1, x0, x5, x7, x8, x9, x18, x19, x20, x35 => if x35 = true then (if x5.length < 4398046511104 then ((some (x5 ++ [(⟨true, x7, (⟨#[]⟩ : ByteArray)⟩ : S32)] : List (S32))).bind fun y641 => (if x9 = true then (if y641.length < 4398046511104 then (diff_Of.l0 k x0 (y641 ++ [(⟨false, 0, x8⟩ : S32)]) x9 x18 x19 (wrap64 (x20 + 1))) else (none)) else (diff_Of.l0 k x0 y641 x9 x18 x19 (wrap64 (x20 + 1))))) else (none)) else (if x9 = true then (if x5.length < 4398046511104 then (diff_Of.l0 k x0 (x5 ++ [(⟨false, 0, x8⟩ : S32)]) x9 x18 x19 (wrap64 (x20 + 1))) else (none)) else (diff_Of.l0 k x0 x5 x9 x18 x19 (wrap64 (x20 + 1))))
end
def diff_Of.f (k : Nat) (l0 : List ByteArray) (l1 : List ByteArray) : Option ((List (S32))) := if (l0.length : Int) = 256 then (diff_Of.j0 k l0 l1 ((l1.length : Int) != 256)) else (diff_Of.j0 k l0 l1 true)
set_option maxHeartbeats 8000000 in
set_option maxRecDepth 100000 in
theorem diff_Of.calls (k : Nat) (A0 : Option Addr) (c0 : Nat) (l0 : List ByteArray) (A1 : Option Addr) (c1 : Nat) (l1 : List ByteArray) (r : List (S32)) (w : World) (hr0 : Kd.C Kd.string w A0 l0.length l0) (hc0 : l0.length ≤ c0) (hr1 : Kd.C Kd.string w A1 l1.length l1) (hc1 : l1.length ≤ c1) (h : diff_Of.f k l0 l1 = some r) :
    Calls Tryz.prog 21 #[.slice A0 l0.length c0, .slice A1 l1.length c1] w fun e w' => ∃ v0_ : Value, e = .returned (v0_) ∧ Kd.R k32 32 w' w.heap.size (fun _ => True) v0_ r ∧ Below w.heap.size w w' := by
  have hu32 := Tryz.underlying32
  have HR0 := Aside0.mk hr0
  have HC0 := Aside0.mk hc0
  clear hr0 hc0
  have HR1 := Aside0.mk hr1
  have HC1 := Aside0.mk hc1
  clear hr1 hc1
  have HB := Aside0.mk (Below.refl w.heap.size w)
  have H : (if (l0.length : Int) = 256 then (diff_Of.j0 k l0 l1 ((l1.length : Int) != 256)) else (diff_Of.j0 k l0 l1 true)) = some r := h
  clear h
  have HC3 := Aside0.mk H
  clear H
  go_enter Tryz.func21, Tryz.ntmps21
  go_upto_region 1 with (fail)
  go_cut [17] (fun v17 wc => ∃ (kq : Nat) (x17_2 : Bool), v17 = .bool x17_2 ∧ Aside0 (diff_Of.j0 kq l0 l1 x17_2 = some r) ∧ Aside0 (kq ≤ k) ∧ Aside0 (Below w.heap.size w wc))
  case first =>
    have H := HC3.out
    clear HC3
    by_cases c4 : (l0.length : Int) = 256
    · rw [if_pos c4] at H
      have c4b0 : ((l0.length : Int) == 256) = true := beq_iff_eq.mpr c4
      have c4b1 : ((l0.length : Int) != 256) = false := bne_eq_false_iff_eq.mpr c4
      clear c4
      (first | rw [c4b0] | (simp only [i64_w, i32_w]; rw [c4b0]) | skip)
      have H' := Aside0.mk H
      clear H
      go_wp2
      go_meet
      case rel => exact ⟨_, (((l1.length : Int) != 256)), (by first | rfl | (simp; done) | (simp [*]; done)), H', ⟨by first | omega | exact Nat.le_refl _⟩, ⟨by repeat (first | (with_reducible first | exact HB.out | apply below_alloc | apply pw_below_drewN | apply below_drew1) | exact HB.out)⟩⟩
    · rw [if_neg c4] at H
      have c4b0 : ((l0.length : Int) == 256) = false := beq_eq_false_iff_ne.mpr c4
      have c4b1 : ((l0.length : Int) != 256) = true := bne_iff_ne.mpr c4
      (first | rw [c4b0] | (simp only [i64_w, i32_w]; rw [c4b0]) | skip)
      have H' := Aside0.mk H
      clear H
      go_wp2
      go_meet
      case rel => exact ⟨_, (true), (by first | rfl | (simp; done) | (simp [*]; done)), H', ⟨by first | omega | exact Nat.le_refl _⟩, ⟨by repeat (first | (with_reducible first | exact HB.out | apply below_alloc | apply pw_below_drewN | apply below_drew1) | exact HB.out)⟩⟩
  case rest =>
    clear HC3
    try clear c1
    try clear c2
    try clear p2
    try clear c4
    try clear c4b0
    try clear c4b1
    obtain ⟨kq, x17_2, rfl, HA, HJ2, HB⟩ := hcut
    cases kq with
    | zero => exact absurd HA.out (by simp [diff_Of.j0])
    | succ kj2 =>
      have H := HA.out
      clear HA
      simp only [diff_Of.j0] at H
      by_cases c5 : x17_2 = true
      · subst c5
        have H1 : (some ([] : List (S32))) = some r := by rw [if_pos rfl] at H; exact H
        clear H
        have H := H1
        clear H1
        obtain rfl := Option.some.inj H
        go_wp2
        go_ret
        exact ⟨_, by first | rfl | (simp [errW_none, errW_some] <;> rfl) | (simp [*, errW_none, errW_some] <;> rfl), by first | exact Kd.R_nil _ _ _ _ _ | exact Kd.N_nil _ _ _ _ _ | exact Kd.V_nil _ _ _ _ _ | exact Kd.Q_nil _ _ _ _ _ | exact Kd.S_nil _ _ _ _ _, by repeat (first | (with_reducible first | exact HB.out | apply below_alloc | apply pw_below_drewN | apply below_drew1) | exact HB.out)⟩
      · replace c5 := Bool.eq_false_iff.mpr c5
        subst c5
        have H1 : (diff_Of.l0 kj2 l0 ([] : List (S32)) false l1 (l1.length : Int) 0) = some r := by rw [if_neg (show ¬ (false = true) by decide)] at H; exact H
        clear H
        have H := H1
        clear H1
        have H' := Aside0.mk H
        clear H
        go_wp2
        go_loopg [5, 6, 20] kj2 (fun kq v5 v6 v20 w' => ∃ (x5_2 : List (S32)) (x6_2 : Bool) (x20_2 : Int), v6 = .bool x6_2 ∧ v20 = .int .i64 x20_2 ∧ Aside0 (diff_Of.l0 kq l0 x5_2 x6_2 l1 (l1.length : Int) x20_2 = some r) ∧ Aside0 (kq ≤ kj2) ∧ Aside0 (Kd.R k32 32 w' w.heap.size (fun _ => True) v5 x5_2) ∧ Aside0 (Below w.heap.size w w'))
        case atStart => exact ⟨(([] : List (S32))), (false), (0), (by first | rfl | (simp; done) | (simp [*]; done)), (by first | rfl | (simp; done) | (simp [*]; done)), H', ⟨Nat.le_refl _⟩, ⟨by first | exact Kd.R_nil _ _ _ _ _ | exact Kd.N_nil _ _ _ _ _ | exact Kd.V_nil _ _ _ _ _ | exact Kd.Q_nil _ _ _ _ _ | exact Kd.S_nil _ _ _ _ _⟩, ⟨by repeat (first | (with_reducible first | exact HB.out | apply below_alloc | apply pw_below_drewN | apply below_drew1) | exact HB.out)⟩⟩
        case round =>
          clear H'
          try clear c1
          try clear c2
          try clear p2
          try clear c4
          try clear c4b0
          try clear c4b1
          try clear c5
          try clear p2
          obtain ⟨x5_2, x6_2, x20_2, rfl, rfl, HA, HK2, HO_5, HB⟩ := hrel
          cases gk with
          | zero => exact absurd HA.out (by simp [diff_Of.l0])
          | succ k2 =>
            have H := HA.out
            clear HA
            simp only [diff_Of.l0] at H
            by_cases c6 : x20_2 < (l1.length : Int)
            · rw [if_pos c6] at H
              have c6b0 : decide (x20_2 < (l1.length : Int)) = true := decide_eq_true c6
              clear c6
              by_cases c7 : 0 ≤ x20_2
              · rw [if_pos c7] at H
                have c7b0 : decide (0 ≤ x20_2) = true := decide_eq_true c7
                clear c7
                by_cases c8 : x20_2 < (l1.length : Int)
                · rw [if_pos c8] at H
                  have c8b0 : decide (x20_2 < (l1.length : Int)) = true := decide_eq_true c8
                  clear c8
                  by_cases c9 : x20_2 < (l0.length : Int)
                  · rw [if_pos c9] at H
                    have c9b0 : decide (x20_2 < (l0.length : Int)) = true := decide_eq_true c9
                    clear c9
                    have HC10 := Aside0.mk H
                    clear H
                    have p639 : 0 ≤ (x20_2 : Int) := of_decide_eq_true (by first | (with_reducible assumption) | assumption)
                    have q639 : x20_2 < (l1.length : Int) := of_decide_eq_true (by first | (with_reducible assumption) | assumption)
                    obtain ⟨ad639, e639, hx639_0⟩ := Kd.at_string HR1.out x20_2 p639 q639
                    cases e639
                    replace hx639_0 := (HB.out.cell (World.block_lt_of_cell? w _ hx639_0)).trans hx639_0
                    replace p639 := eq_true p639
                    replace q639 := eq_true q639
                    have p640 : 0 ≤ (x20_2 : Int) := of_decide_eq_true (by first | (with_reducible assumption) | assumption)
                    have q640 : x20_2 < (l0.length : Int) := of_decide_eq_true (by first | (with_reducible assumption) | assumption)
                    obtain ⟨ad640, e640, hx640_0⟩ := Kd.at_string HR0.out x20_2 p640 q640
                    cases e640
                    replace hx640_0 := (HB.out.cell (World.block_lt_of_cell? w _ hx640_0)).trans hx640_0
                    replace p640 := eq_true p640
                    replace q640 := eq_true q640
                    go_upto_region 9 with (fail)
                    obtain ⟨ob_, hob_⟩ : ∃ o_ : Bool, ((rdOf ByteArray.empty l0 x20_2).toList == (rdOf ByteArray.empty l1 x20_2).toList) = o_ := ⟨_, rfl⟩
                    simp only [hob_]
                    go_cut [35] (fun v35 wc => ∃ (kq : Nat) (x35_9 : Bool), v35 = .bool x35_9 ∧ Aside0 (diff_Of.j2 kq l0 x5_2 x20_2 (rdOf ByteArray.empty l1 x20_2) ((rdOf ByteArray.empty l0 x20_2).toList != (rdOf ByteArray.empty l1 x20_2).toList) l1 (l1.length : Int) x20_2 x35_9 = some r) ∧ Aside0 (kq ≤ k2) ∧ Aside0 (Kd.R k32 32 wc w.heap.size (fun _ => True) u5 x5_2) ∧ Aside0 (Below w.heap.size w wc))
                    case first =>
                      have H := HC10.out
                      clear HC10
                      by_cases c11 : (rdOf ByteArray.empty l0 x20_2).toList = (rdOf ByteArray.empty l1 x20_2).toList
                      · rw [if_pos c11] at H
                        have c11b0 : ((rdOf ByteArray.empty l0 x20_2).toList == (rdOf ByteArray.empty l1 x20_2).toList) = true := beq_iff_eq.mpr c11
                        have c11b1 : ((rdOf ByteArray.empty l0 x20_2).toList != (rdOf ByteArray.empty l1 x20_2).toList) = false := bne_eq_false_iff_eq.mpr c11
                        rw [c11b0] at hob_
                        subst hob_
                        clear c11
                        (first | rw [c11b0] | (simp only [i64_w, i32_w]; rw [c11b0]) | skip)
                        have H' := Aside0.mk H
                        clear H
                        go_wp2
                        go_meet
                        case rel => exact ⟨_, (false), (by first | rfl | (simp; done) | (simp [*]; done)), H', ⟨by have := HJ2.out; have := HK2.out; first | omega | exact Nat.le_refl _⟩, ⟨by (with_reducible repeat (first | apply Kd.R_alloc | apply Kd.R_drewN | apply Kd.R_drew)); exact HO_5.out⟩, ⟨by repeat (first | (with_reducible first | exact HB.out | apply below_alloc | apply pw_below_drewN | apply below_drew1) | exact HB.out)⟩⟩
                      · rw [if_neg c11] at H
                        have c11b0 : ((rdOf ByteArray.empty l0 x20_2).toList == (rdOf ByteArray.empty l1 x20_2).toList) = false := beq_eq_false_iff_ne.mpr c11
                        have c11b1 : ((rdOf ByteArray.empty l0 x20_2).toList != (rdOf ByteArray.empty l1 x20_2).toList) = true := bne_iff_ne.mpr c11
                        rw [c11b0] at hob_
                        subst hob_
                        (first | rw [c11b0] | (simp only [i64_w, i32_w]; rw [c11b0]) | skip)
                        have H' := Aside0.mk H
                        clear H
                        go_wp2
                        go_meet
                        case rel => exact ⟨_, (!x6_2), (by first | rfl | (simp; done) | (simp [*]; done)), H', ⟨by have := HJ2.out; have := HK2.out; first | omega | exact Nat.le_refl _⟩, ⟨by (with_reducible repeat (first | apply Kd.R_alloc | apply Kd.R_drewN | apply Kd.R_drew)); exact HO_5.out⟩, ⟨by repeat (first | (with_reducible first | exact HB.out | apply below_alloc | apply pw_below_drewN | apply below_drew1) | exact HB.out)⟩⟩
                    case rest =>
                      have hnb_ : ((rdOf ByteArray.empty l0 x20_2).toList != (rdOf ByteArray.empty l1 x20_2).toList) = (!ob_) := by unfold bne; rw [hob_]
                      clear HC10
                      try clear c1
                      try clear c2
                      try clear p2
                      try clear c4
                      try clear c4b0
                      try clear c4b1
                      try clear c5
                      try clear c6
                      try clear c6b0
                      try clear p6
                      try clear q6
                      try clear hx6
                      try clear c7
                      try clear c7b0
                      try clear c8
                      try clear c8b0
                      try clear c9
                      try clear c9b0
                      try clear c11
                      try clear c11b0
                      try clear c11b1
                      try clear hx639_0
                      try clear hx640_0
                      try clear p2
                      try clear p639
                      try clear p640
                      try clear q639
                      try clear q640
                      obtain ⟨kq, x35_9, rfl, HA, HJ9, HO_5, HB⟩ := hcut
                      cases kq with
                      | zero => exact absurd HA.out (by simp [diff_Of.j2])
                      | succ kj9 =>
                        have H := HA.out
                        clear HA
                        simp only [diff_Of.j2] at H
                        simp only [hnb_] at H
                        by_cases c12 : x35_9 = true
                        · subst c12
                          have H1 : (if x5_2.length < 4398046511104 then ((some (x5_2 ++ [(⟨true, x20_2, (⟨#[]⟩ : ByteArray)⟩ : S32)] : List (S32))).bind fun y641 => (if (!ob_) = true then (if y641.length < 4398046511104 then (diff_Of.l0 kj9 l0 (y641 ++ [(⟨false, 0, (rdOf ByteArray.empty l1 x20_2)⟩ : S32)]) (!ob_) l1 (l1.length : Int) (wrap64 (x20_2 + 1))) else (none)) else (diff_Of.l0 kj9 l0 y641 (!ob_) l1 (l1.length : Int) (wrap64 (x20_2 + 1))))) else (none)) = some r := by rw [if_pos rfl] at H; exact H
                          clear H
                          have H := H1
                          clear H1
                          by_cases c13 : x5_2.length < 4398046511104
                          · rw [if_pos c13] at H
                            have LMc13 := Aside0.mk c13
                            clear c13
                            obtain ⟨y641, hy641⟩ : ∃ y_ : List (S32), y_ = (x5_2 ++ [(⟨true, x20_2, (⟨#[]⟩ : ByteArray)⟩ : S32)]) := ⟨_, rfl⟩
                            replace H : (if (!ob_) = true then (if y641.length < 4398046511104 then (diff_Of.l0 kj9 l0 (y641 ++ [(⟨false, 0, (rdOf ByteArray.empty l1 x20_2)⟩ : S32)]) (!ob_) l1 (l1.length : Int) (wrap64 (x20_2 + 1))) else (none)) else (diff_Of.l0 kj9 l0 y641 (!ob_) l1 (l1.length : Int) (wrap64 (x20_2 + 1)))) = some r := by first | (rw [hy641]; with_reducible exact H) | (have H2_ := (Option.bind_some _ _).symm.trans H; rw [hy641]; with_reducible exact H2_) | (have H2_ := (Option.bind_some _ _).symm.trans H; with_reducible exact H2_) | with_reducible exact H | (rw [hy641]; exact H) | exact H
                            have Ny641 := Aside0.mk hy641
                            clear hy641
                            by_cases c14 : (!ob_) = true
                            · rw [if_pos c14] at H
                              have hob2_ : ob_ = false := by revert c14; cases ob_ <;> simp
                              subst hob2_
                              have c14b0 : (!false) = true := c14
                              clear c14
                              by_cases c15 : y641.length < 4398046511104
                              · rw [if_pos c15] at H
                                have LMc15 := Aside0.mk c15
                                clear c15
                                obtain ⟨y644, hy644⟩ : ∃ y_ : List (S32), y_ = (y641 ++ [(⟨false, 0, (rdOf ByteArray.empty l1 x20_2)⟩ : S32)]) := ⟨_, rfl⟩
                                replace H : (diff_Of.l0 kj9 l0 y644 (!false) l1 (l1.length : Int) (wrap64 (x20_2 + 1))) = some r := by first | (rw [hy644]; with_reducible exact H) | (have H2_ := (Option.bind_some _ _).symm.trans H; rw [hy644]; with_reducible exact H2_) | (have H2_ := (Option.bind_some _ _).symm.trans H; with_reducible exact H2_) | with_reducible exact H | (rw [hy644]; exact H) | exact H
                                have Ny644 := Aside0.mk hy644
                                clear hy644
                                have H' := Aside0.mk H
                                clear H
                                go_wp2_with (first | ((with_reducible refine gate_builtin (b := .append) (xs := #[.tmp 36, .tmp 39]) rfl ?_); (try (refine gate_guard (by rfl) ?_; dsimp only)); at_builtin; refine Kd.R_append k32 (w0 := w) w.heap.size rfl (.tmp 36) (.tmp 39) 29 32 (.agg #[(.bool false), (.int .i64 0), (.string ⟨#[]⟩)]) 32 rfl Tryz.underlying29 info32 rfl (by decide) (by omega) u5 x5_2 (⟨true, x20_2, (⟨#[]⟩ : ByteArray)⟩ : S32) [.bool true, .int .i64 x20_2, .string (⟨#[]⟩ : ByteArray)] (fun _ => True) (fun _ => False) rfl rfl ?aP (fun _ hk => hk.elim) ?aF ?aO ?aB ?aS ?aL ?_; (case aP => exact k32_mkM _ _ _ (⟨true, x20_2, (⟨#[]⟩ : ByteArray)⟩ : S32)); (case aB => exact (by repeat (first | (with_reducible first | exact HB.out | apply below_alloc | apply pw_below_drewN | apply below_drew1) | exact HB.out))); (case aF => exact (fun _ _ => trivial)); (case aO => exact (by (with_reducible repeat (first | apply Kd.R_alloc | apply Kd.R_drewN | apply Kd.R_drew)); exact HO_5.out)); (case aS => exact (below_size (by repeat (first | (with_reducible first | exact HB.out | apply below_alloc | apply pw_below_drewN | apply below_drew1) | exact HB.out)))); (case aL => have := LMc13.out; omega); intro v642 w16 ho hb hg hat; rw [← Ny641.out] at ho; have n0_ := Aside0.mk (hb); have n1_ := Aside0.mk (ho); clear HB; clear HO_5; have HB := n0_; have HO643 := n1_; clear n0_ n1_; clear ho hb hg hat) | ((with_reducible refine gate_builtin (b := .append) (xs := #[.tmp 42, .tmp 45]) rfl ?_); (try (refine gate_guard (by rfl) ?_; dsimp only)); at_builtin; refine Kd.R_append k32 (w0 := w) w.heap.size rfl (.tmp 42) (.tmp 45) 29 32 (.agg #[(.bool false), (.int .i64 0), (.string ⟨#[]⟩)]) 32 rfl Tryz.underlying29 info32 rfl (by decide) (by omega) v642 y641 (⟨false, 0, (rdOf ByteArray.empty l1 x20_2)⟩ : S32) [.bool false, .int .i64 0, .string (rdOf ByteArray.empty l1 x20_2)] (fun _ => True) (fun _ => False) rfl rfl ?aP (fun _ hk => hk.elim) ?aF ?aO ?aB ?aS ?aL ?_; (case aP => exact k32_mkM _ _ _ (⟨false, 0, (rdOf ByteArray.empty l1 x20_2)⟩ : S32)); (case aB => exact (by repeat (first | (with_reducible first | exact HB.out | apply below_alloc | apply pw_below_drewN | apply below_drew1) | exact HB.out))); (case aF => exact (fun _ _ => trivial)); (case aO => exact (by (with_reducible repeat (first | apply Kd.R_alloc | apply Kd.R_drewN | apply Kd.R_drew)); exact HO643.out)); (case aS => exact (below_size (by repeat (first | (with_reducible first | exact HB.out | apply below_alloc | apply pw_below_drewN | apply below_drew1) | exact HB.out)))); (case aL => have := LMc15.out; omega); intro v645 w17 ho hb hg hat; rw [← Ny644.out] at ho; have n0_ := Aside0.mk (hb); have n1_ := Aside0.mk (ho); clear HB; clear HO643; have HB := n0_; have HO646 := n1_; clear n0_ n1_; clear ho hb hg hat))
                                go_roundg kj9
                                case measure => have := HJ2.out; have := HK2.out; have := HJ9.out; omega
                                case rel => exact ⟨(y644), ((!false)), (wrap64 (x20_2 + 1)), (by first | rfl | (simp; done) | (simp [*]; done)), (by first | rfl | (simp; done) | (simp [*]; done)), H', ⟨by have := HJ2.out; have := HK2.out; have := HJ9.out; omega⟩, ⟨by (with_reducible repeat (first | apply Kd.R_alloc | apply Kd.R_drewN | apply Kd.R_drew)); exact HO646.out⟩, ⟨by repeat (first | (with_reducible first | exact HB.out | apply below_alloc | apply pw_below_drewN | apply below_drew1) | exact HB.out)⟩⟩
                              · rw [if_neg c15] at H
                                exact absurd H (by simp)
                            · rw [if_neg c14] at H
                              have hob2_ : ob_ = true := by revert c14; cases ob_ <;> simp
                              subst hob2_
                              have c14b0 : (!true) = false := by simp
                              clear c14
                              have H' := Aside0.mk H
                              clear H
                              go_wp2_with (first | ((with_reducible refine gate_builtin (b := .append) (xs := #[.tmp 36, .tmp 39]) rfl ?_); (try (refine gate_guard (by rfl) ?_; dsimp only)); at_builtin; refine Kd.R_append k32 (w0 := w) w.heap.size rfl (.tmp 36) (.tmp 39) 29 32 (.agg #[(.bool false), (.int .i64 0), (.string ⟨#[]⟩)]) 32 rfl Tryz.underlying29 info32 rfl (by decide) (by omega) u5 x5_2 (⟨true, x20_2, (⟨#[]⟩ : ByteArray)⟩ : S32) [.bool true, .int .i64 x20_2, .string (⟨#[]⟩ : ByteArray)] (fun _ => True) (fun _ => False) rfl rfl ?aP (fun _ hk => hk.elim) ?aF ?aO ?aB ?aS ?aL ?_; (case aP => exact k32_mkM _ _ _ (⟨true, x20_2, (⟨#[]⟩ : ByteArray)⟩ : S32)); (case aB => exact (by repeat (first | (with_reducible first | exact HB.out | apply below_alloc | apply pw_below_drewN | apply below_drew1) | exact HB.out))); (case aF => exact (fun _ _ => trivial)); (case aO => exact (by (with_reducible repeat (first | apply Kd.R_alloc | apply Kd.R_drewN | apply Kd.R_drew)); exact HO_5.out)); (case aS => exact (below_size (by repeat (first | (with_reducible first | exact HB.out | apply below_alloc | apply pw_below_drewN | apply below_drew1) | exact HB.out)))); (case aL => have := LMc13.out; omega); intro v642 w18 ho hb hg hat; rw [← Ny641.out] at ho; have n0_ := Aside0.mk (hb); have n1_ := Aside0.mk (ho); clear HB; clear HO_5; have HB := n0_; have HO643 := n1_; clear n0_ n1_; clear ho hb hg hat))
                              go_roundg kj9
                              case measure => have := HJ2.out; have := HK2.out; have := HJ9.out; omega
                              case rel => exact ⟨(y641), ((!true)), (wrap64 (x20_2 + 1)), (by first | rfl | (simp; done) | (simp [*]; done)), (by first | rfl | (simp; done) | (simp [*]; done)), H', ⟨by have := HJ2.out; have := HK2.out; have := HJ9.out; omega⟩, ⟨by (with_reducible repeat (first | apply Kd.R_alloc | apply Kd.R_drewN | apply Kd.R_drew)); exact HO643.out⟩, ⟨by repeat (first | (with_reducible first | exact HB.out | apply below_alloc | apply pw_below_drewN | apply below_drew1) | exact HB.out)⟩⟩
                          · rw [if_neg c13] at H
                            exact absurd H (by simp)
                        · replace c12 := Bool.eq_false_iff.mpr c12
                          subst c12
                          have H1 : (if (!ob_) = true then (if x5_2.length < 4398046511104 then (diff_Of.l0 kj9 l0 (x5_2 ++ [(⟨false, 0, (rdOf ByteArray.empty l1 x20_2)⟩ : S32)]) (!ob_) l1 (l1.length : Int) (wrap64 (x20_2 + 1))) else (none)) else (diff_Of.l0 kj9 l0 x5_2 (!ob_) l1 (l1.length : Int) (wrap64 (x20_2 + 1)))) = some r := by rw [if_neg (show ¬ (false = true) by decide)] at H; exact H
                          clear H
                          have H := H1
                          clear H1
                          by_cases c19 : (!ob_) = true
                          · rw [if_pos c19] at H
                            have hob2_ : ob_ = false := by revert c19; cases ob_ <;> simp
                            subst hob2_
                            have c19b0 : (!false) = true := c19
                            clear c19
                            by_cases c20 : x5_2.length < 4398046511104
                            · rw [if_pos c20] at H
                              have LMc20 := Aside0.mk c20
                              clear c20
                              obtain ⟨y647, hy647⟩ : ∃ y_ : List (S32), y_ = (x5_2 ++ [(⟨false, 0, (rdOf ByteArray.empty l1 x20_2)⟩ : S32)]) := ⟨_, rfl⟩
                              replace H : (diff_Of.l0 kj9 l0 y647 (!false) l1 (l1.length : Int) (wrap64 (x20_2 + 1))) = some r := by first | (rw [hy647]; with_reducible exact H) | (have H2_ := (Option.bind_some _ _).symm.trans H; rw [hy647]; with_reducible exact H2_) | (have H2_ := (Option.bind_some _ _).symm.trans H; with_reducible exact H2_) | with_reducible exact H | (rw [hy647]; exact H) | exact H
                              have Ny647 := Aside0.mk hy647
                              clear hy647
                              have H' := Aside0.mk H
                              clear H
                              go_wp2_with (first | ((with_reducible refine gate_builtin (b := .append) (xs := #[.tmp 42, .tmp 45]) rfl ?_); (try (refine gate_guard (by rfl) ?_; dsimp only)); at_builtin; refine Kd.R_append k32 (w0 := w) w.heap.size rfl (.tmp 42) (.tmp 45) 29 32 (.agg #[(.bool false), (.int .i64 0), (.string ⟨#[]⟩)]) 32 rfl Tryz.underlying29 info32 rfl (by decide) (by omega) u5 x5_2 (⟨false, 0, (rdOf ByteArray.empty l1 x20_2)⟩ : S32) [.bool false, .int .i64 0, .string (rdOf ByteArray.empty l1 x20_2)] (fun _ => True) (fun _ => False) rfl rfl ?aP (fun _ hk => hk.elim) ?aF ?aO ?aB ?aS ?aL ?_; (case aP => exact k32_mkM _ _ _ (⟨false, 0, (rdOf ByteArray.empty l1 x20_2)⟩ : S32)); (case aB => exact (by repeat (first | (with_reducible first | exact HB.out | apply below_alloc | apply pw_below_drewN | apply below_drew1) | exact HB.out))); (case aF => exact (fun _ _ => trivial)); (case aO => exact (by (with_reducible repeat (first | apply Kd.R_alloc | apply Kd.R_drewN | apply Kd.R_drew)); exact HO_5.out)); (case aS => exact (below_size (by repeat (first | (with_reducible first | exact HB.out | apply below_alloc | apply pw_below_drewN | apply below_drew1) | exact HB.out)))); (case aL => have := LMc20.out; omega); intro v648 w21 ho hb hg hat; rw [← Ny647.out] at ho; have n0_ := Aside0.mk (hb); have n1_ := Aside0.mk (ho); clear HB; clear HO_5; have HB := n0_; have HO649 := n1_; clear n0_ n1_; clear ho hb hg hat))
                              go_roundg kj9
                              case measure => have := HJ2.out; have := HK2.out; have := HJ9.out; omega
                              case rel => exact ⟨(y647), ((!false)), (wrap64 (x20_2 + 1)), (by first | rfl | (simp; done) | (simp [*]; done)), (by first | rfl | (simp; done) | (simp [*]; done)), H', ⟨by have := HJ2.out; have := HK2.out; have := HJ9.out; omega⟩, ⟨by (with_reducible repeat (first | apply Kd.R_alloc | apply Kd.R_drewN | apply Kd.R_drew)); exact HO649.out⟩, ⟨by repeat (first | (with_reducible first | exact HB.out | apply below_alloc | apply pw_below_drewN | apply below_drew1) | exact HB.out)⟩⟩
                            · rw [if_neg c20] at H
                              exact absurd H (by simp)
                          · rw [if_neg c19] at H
                            have hob2_ : ob_ = true := by revert c19; cases ob_ <;> simp
                            subst hob2_
                            have c19b0 : (!true) = false := by simp
                            clear c19
                            have H' := Aside0.mk H
                            clear H
                            go_wp2
                            go_roundg kj9
                            case measure => have := HJ2.out; have := HK2.out; have := HJ9.out; omega
                            case rel => exact ⟨(x5_2), ((!true)), (wrap64 (x20_2 + 1)), (by first | rfl | (simp; done) | (simp [*]; done)), (by first | rfl | (simp; done) | (simp [*]; done)), H', ⟨by have := HJ2.out; have := HK2.out; have := HJ9.out; omega⟩, ⟨by (with_reducible repeat (first | apply Kd.R_alloc | apply Kd.R_drewN | apply Kd.R_drew)); exact HO_5.out⟩, ⟨by repeat (first | (with_reducible first | exact HB.out | apply below_alloc | apply pw_below_drewN | apply below_drew1) | exact HB.out)⟩⟩
                  · rw [if_neg c9] at H
                    exact absurd H (by simp)
                · rw [if_neg c8] at H
                  exact absurd H (by simp)
              · rw [if_neg c7] at H
                exact absurd H (by simp)
            · rw [if_neg c6] at H
              have c6b0 : decide (x20_2 < (l1.length : Int)) = false := decide_eq_false c6
              clear c6
              obtain rfl := Option.some.inj H
              go_wp2
              go_ret
              exact ⟨_, by first | rfl | (simp [errW_none, errW_some] <;> rfl) | (simp [*, errW_none, errW_some] <;> rfl), by (with_reducible repeat (first | apply Kd.R_alloc | apply Kd.R_drewN | apply Kd.R_drew)); exact HO_5.out, by repeat (first | (with_reducible first | exact HB.out | apply below_alloc | apply pw_below_drewN | apply below_drew1) | exact HB.out)⟩
end Go.Proofs.YtdcldaknmenklaaGreatDoor.M
end
section
namespace Go.Proofs.YtdcldaknmenklaaGreatDoor.M
open Go.RowKit Go.Proofs.YtdcldaknmenklaaGreatDoorW.PrintWords
set_option linter.unusedVariables false
def strconv_Itoa.f (a0 : Int) : Option ByteArray := if -9223372036854775808 ≤ a0 ∧ a0 ≤ 9223372036854775807 then some ⟨(Lib.itoa a0).toArray⟩ else none
theorem strconv_Itoa.calls (a0 : Int) (r : ByteArray) (w : World) (hG : GW w) (h : strconv_Itoa.f a0 = some r) :
    Calls Tryz.prog 35 #[.int .i64 a0] w fun e w' => e = .returned (.string r) ∧ Below w.heap.size w w' := by
  unfold strconv_Itoa.f at h
  split at h
  case isFalse => cases h
  rename_i hb
  obtain rfl := Option.some.inj h
  refine (Tryz.strconv_Itoa a0 hb.1 hb.2 w hG.pow).mono ?_
  rintro e w' ⟨rfl, k, os, rfl⟩
  exact ⟨rfl, Lib.below_grow _ w (Nat.le_refl _) k os⟩
end Go.Proofs.YtdcldaknmenklaaGreatDoor.M
end
section
namespace Go.Proofs.YtdcldaknmenklaaGreatDoor.M
open Go.RowKit Go.Proofs.YtdcldaknmenklaaGreatDoorW.PrintWords
set_option linter.unusedVariables false
/-- A digit of a number below 16. -/
def hexDig (n : Nat) : UInt8 := if n < 10 then (48 + n).toUInt8 else (55 + n).toUInt8
def hexOf (c : Int) : List UInt8 := [hexDig (c.toNat / 16), hexDig (c.toNat % 16)]
def hexBytes (l : List Int) : List UInt8 := l.flatMap hexOf
def isByte (c : Int) : Bool := decide (0 ≤ c) && decide (c ≤ 255)
def hex_Hex.f (l0 : List Int) : Option ByteArray := if l0.all isByte = true then (if l0.length * 2 ≤ 140737488355328 then some ⟨(hexBytes l0).toArray⟩ else none) else none
theorem hexBytes_length (l : List Int) : (hexBytes l).length = 2 * l.length := by
  induction l with
  | nil => rfl
  | cons c l ih => simp only [hexBytes, List.flatMap_cons, List.length_append] at ih ⊢; rw [ih]; simp [hexOf]; omega
theorem hexBytes_snoc (l : List Int) (i : Nat) (h : i < l.length) : hexBytes (l.take (i + 1)) = hexBytes (l.take i) ++ hexOf (l.getD i 0) := by
  unfold hexBytes
  rw [List.take_succ_eq_append_getElem h, List.flatMap_append]
  simp [List.getD_eq_getElem?_getD, h]
theorem hexAt (n : Nat) (h : n < 16) : (⟨#[48, 49, 50, 51, 52, 53, 54, 55, 56, 57, 65, 66, 67, 68, 69, 70]⟩ : ByteArray)[n]'h = hexDig n := by
  have : ∀ m : Fin 16, (⟨#[48, 49, 50, 51, 52, 53, 54, 55, 56, 57, 65, 66, 67, 68, 69, 70]⟩ : ByteArray)[m.val]'m.isLt = hexDig m.val := by decide
  exact this ⟨n, h⟩
theorem hexCells (l : List Int) (k : Nat) (hk : k < l.length) (c : Int) (hc : rd l k = c) (h0 : 0 ≤ c) (h1 : c ≤ 255) (ha : (c / 16).toNat < 16) (hb : (c % 16).toNat < 16) :
    Lib.byteCells (hexBytes (l.take k)) ++ [.int .u8 ↑((⟨#[48, 49, 50, 51, 52, 53, 54, 55, 56, 57, 65, 66, 67, 68, 69, 70]⟩ : ByteArray)[(c / 16).toNat]'ha).toNat] ++ [.int .u8 ↑((⟨#[48, 49, 50, 51, 52, 53, 54, 55, 56, 57, 65, 66, 67, 68, 69, 70]⟩ : ByteArray)[(c % 16).toNat]'hb).toNat] = Lib.byteCells (hexBytes (l.take (k + 1))) := by
  rw [hexBytes_snoc l k hk, Lib.byteCells_append, hexAt _ ha, hexAt _ hb, List.append_assoc]
  have e : l.getD k 0 = c := by simpa [rd] using hc
  rw [e]
  have e1 : (c / 16).toNat = c.toNat / 16 := by omega
  have e2 : (c % 16).toNat = c.toNat % 16 := by omega
  simp [hexOf, Lib.byteCells, e1, e2]
set_option maxHeartbeats 4000000 in
set_option maxRecDepth 1000000 in
theorem hex_Hex.calls (A0 : Option Addr) (c0 : Nat) (l0 : List Int) (r : ByteArray) (w : World) (hr0 : Kd.C (Kd.int .u8) w A0 l0.length l0) (hc0 : l0.length ≤ c0) (h : hex_Hex.f l0 = some r) :
    Calls Tryz.prog 189 #[.slice A0 l0.length c0] w fun e w' => e = .returned (.string r) ∧ Below w.heap.size w w' := by
  unfold hex_Hex.f at h
  split at h
  case isFalse => cases h
  rename_i hb
  split at h
  case isFalse => cases h
  rename_i hl
  obtain rfl := Option.some.inj h
  clear h
  have HR := Aside0.mk hr0
  have HB := Aside0.mk hb
  clear hr0 hb
  go_enter Tryz.func189, Tryz.ntmps189
  go_wp2
  go_loopw [8] (fun i wr => ∃ k : Nat, k ≤ l0.length ∧ i = .int .i64 k ∧ IsBd w.heap.size w.heap.size (hexBytes (l0.take k)) wr ∧ Below w.heap.size w wr) (fun i wr => l0.length - (intOf i).toNat)
  case atStart => 
    refine ⟨0, Nat.zero_le _, rfl, (Lib.IsBuilderF.of (Lib.fresh_isBuilder _ _ w)), (Below.refl _ w).alloc (Nat.le_refl _) _⟩
  case round =>
    obtain ⟨k, hk, rfl, hI, hbw⟩ := hrel
    by_cases hlt : k < l0.length
    · obtain ⟨ad, e101, hx101⟩ := Kd.at_int HR.out (k : Int) (by omega) (by omega)
      subst e101
      have hx : wr.cell? (ad.add k) = some (.int .u8 (rd l0 k)) := by simpa using pw_cell_below hbw hx101
      obtain ⟨c, hc, h0, h1⟩ : ∃ c, rd l0 k = c ∧ 0 ≤ c ∧ c ≤ 255 := by
        have hm : rd l0 k ∈ l0 := by simp [rd, List.getD_eq_getElem?_getD, hlt]
        have := List.all_eq_true.1 HB.out _ hm
        simp only [isByte, Bool.and_eq_true, decide_eq_true_eq] at this
        exact ⟨_, rfl, this.1, this.2⟩
      have HC := Aside0.mk hc
      rw [hc] at hx
      clear hc hx101
      have hand : Go.bits .and .u8 c 15 = c % 16 := u8_and15 c h0 (by omega)
      go_wp2_with (go_at_call 88; refine (WriteByte_k w.heap.size w.heap.size _ _ _ hI ?_ ?_).mono ?_)
      · rw [Lib.byteCells_length, hexBytes_length, List.length_take]; omega
      · exact hbw.size
      rintro e W1 ⟨rfl, h1, b1, k1⟩
      clear hI
      go_wp2_with (go_at_call 88; refine (WriteByte_k w.heap.size w.heap.size _ _ _ (.inr h1) ?_ ?_).mono ?_)
      · simp only [List.length_append, Lib.byteCells_length, hexBytes_length, List.length_take, List.length_cons, List.length_nil]; omega
      · exact (hbw.trans b1).size
      rintro e W2 ⟨rfl, h2, b2, k2⟩
      rw [hexCells l0 k hlt c HC.out h0 (by omega)] at h2
      go_wp2
      go_roundw
      case rel => exact ⟨k + 1, by omega, by go_num, .inr h2, (hbw.trans b1).trans b2⟩
      case measure => simp [intOf]; omega
    · go_wp2_with (go_at_call 43; refine (Tryz.Builder_String_any_k w.heap.size w.heap.size _ _ hI hbw.size).mono ?_)
      rintro e W1 ⟨rfl, _, b1, _⟩
      go_wp2
      go_ret
      rw [List.take_of_length_le (by omega)]
      exact ⟨rfl, hbw.trans b1⟩
end Go.Proofs.YtdcldaknmenklaaGreatDoor.M
end
section
namespace Go.Proofs.YtdcldaknmenklaaGreatDoor.M
open Go.RowKit Go.Proofs.YtdcldaknmenklaaGreatDoorW.PrintWords
set_option linter.unusedVariables false
/-- A byte of a name, written. -/
def writeOf (c : UInt8) : List UInt8 := if isPlainB c.toNat then [c] else 35 :: hexOf c.toNat
def writeBytes (l : List UInt8) : List UInt8 := l.flatMap writeOf
def lex_Write.f (a0 : ByteArray) : Option ByteArray := if a0.size * 3 ≤ 140737488355328 then some ⟨(writeBytes a0.data.toList).toArray⟩ else none
theorem writeOf_length (c : UInt8) : 1 ≤ (writeOf c).length ∧ (writeOf c).length ≤ 3 := by
  unfold writeOf; split <;> simp [hexOf]
theorem writeBytes_length (l : List UInt8) : l.length ≤ (writeBytes l).length ∧ (writeBytes l).length ≤ 3 * l.length := by
  induction l with
  | nil => simp [writeBytes]
  | cons c l ih =>
    have := writeOf_length c
    simp only [writeBytes, List.flatMap_cons, List.length_append, List.length_cons] at ih ⊢
    omega
theorem writeBytes_snoc (s : ByteArray) (i : Nat) (h : i < s.size) : writeBytes (s.data.toList.take (i + 1)) = writeBytes (s.data.toList.take i) ++ writeOf s[i] := by
  unfold writeBytes
  rw [List.take_succ_eq_append_getElem (by simpa using h), List.flatMap_append]
  simp
  rfl
set_option maxHeartbeats 4000000 in
set_option maxRecDepth 1000000 in
theorem lex_Write.calls (a0 : ByteArray) (r : ByteArray) (w : World) (h : lex_Write.f a0 = some r) :
    Calls Tryz.prog 187 #[.string a0] w fun e w' => e = .returned (.string r) ∧ Below w.heap.size w w' := by
  unfold lex_Write.f at h
  split at h
  case isFalse => cases h
  rename_i hl
  obtain rfl := Option.some.inj h
  clear h
  go_enter Tryz.func187, Tryz.ntmps187
  go_wp2
  go_loopw [7] (fun i wr => ∃ k : Nat, k ≤ a0.size ∧ i = .int .i64 k ∧ IsBd w.heap.size w.heap.size (writeBytes (a0.data.toList.take k)) wr ∧ Below w.heap.size w wr) (fun i wr => a0.size - (intOf i).toNat)
  case atStart => 
    refine ⟨0, Nat.zero_le _, rfl, (Lib.IsBuilderF.of (Lib.fresh_isBuilder _ _ w)), (Below.refl _ w).alloc (Nat.le_refl _) _⟩
  case round =>
    obtain ⟨k, hk, rfl, hI, hbw⟩ := hrel
    by_cases hlt : k < a0.size
    · have hlen := writeBytes_length (a0.data.toList.take k)
      rw [List.length_take, Array.length_toList] at hlen
      have hsz : min k a0.data.size = k := by have : a0.data.size = a0.size := rfl; omega
      rw [hsz] at hlen
      clear hsz
      have HS := Aside0.mk (writeBytes_snoc a0 k hlt)
      have h256 := (a0[k]).toNat_lt
      have hc := plain_eq (Nat.le_refl 2) (a0[k].toNat : Int) (by omega) (by omega)
      by_cases hp : isPlainB (a0[k].toNat : Int) = true
      · rw [hp] at hc
        have HP := Aside0.mk hp
        have HC := Aside0.mk hc
        clear hp hc
        go_wp2_with (go_at_call 188; refine (lex_plain.calls 2 _ true _ HC.out).mono ?_)
        rintro e W1 ⟨rfl, b1⟩
        replace hI := hI.below b1
        replace hbw := below_then hbw hbw.size b1
        clear b1
        go_wp2_with (go_at_call 88; refine (WriteByte_k w.heap.size w.heap.size _ _ _ hI ?_ ?_).mono ?_)
        · rw [Lib.byteCells_length]; omega
        · exact hbw.size
        rintro e W2 ⟨rfl, h2, b2, k2⟩
        go_wp2
        go_roundw
        case rel =>
          refine ⟨k + 1, by omega, by go_num, ?_, hbw.trans b2⟩
          rw [HS.out, IsBd, Lib.byteCells_append]
          have e : writeOf a0[k] = [a0[k]] := by unfold writeOf; rw [if_pos HP.out]
          rw [e]
          exact .inr h2
        case measure => simp [intOf]; omega
      · have hp' : isPlainB (a0[k].toNat : Int) = false := by simpa using hp
        rw [hp'] at hc
        have HP := Aside0.mk hp'
        have HC := Aside0.mk hc
        clear hp hp' hc
        have hx : hex_Hex.f [(a0[k].toNat : Int)] = some ⟨(hexBytes [(a0[k].toNat : Int)]).toArray⟩ := by
          unfold hex_Hex.f
          rw [if_pos (by simp [isByte]; omega), if_pos (by simp)]
        have HX := Aside0.mk hx
        clear hx
        go_wp2_with (go_at_call 188; refine (lex_plain.calls 2 _ false _ HC.out).mono ?_)
        rintro e W1 ⟨rfl, b1⟩
        replace hI := hI.below b1
        replace hbw := below_then hbw hbw.size b1
        clear b1
        go_wp2_with (go_at_call 88; refine (WriteByte_k w.heap.size w.heap.size _ _ _ hI ?_ ?_).mono ?_)
        · rw [Lib.byteCells_length]; omega
        · exact hbw.size
        rintro e W2 ⟨rfl, h2, b2, k2⟩
        replace hbw := hbw.trans b2
        have hI2 : IsBd w.heap.size w.heap.size (writeBytes (List.take k a0.data.toList) ++ [35]) W2 := by
          rw [IsBd, Lib.byteCells_append]; exact .inr h2
        have hr : Kd.C (Kd.int .u8) (W2.alloc (.cells #[.int .u8 (a0[k].toNat : Int)] 5)) (some ⟨W2.heap.size, 0, none⟩) 1 [(a0[k].toNat : Int)] := reads_one _ _ _ _
        clear hI b2 k2 h2
        go_wp2_with (go_at_call 189; refine (hex_Hex.calls _ 1 [(a0[k].toNat : Int)] _ _ hr (Nat.le_refl 1) HX.out).mono ?_)
        clear hr
        rintro e W3 ⟨rfl, b3⟩
        have hI3 := (IsBd.alloc hI2 (.cells #[.int .u8 (a0[k].toNat : Int)] 5)).below b3
        have hb3 : Below w.heap.size w W3 := below_then (below_alloc hbw _) (below_alloc hbw _).size b3
        clear hI2 b3 hbw
        have hxs : (ByteArray.mk (hexBytes [(a0[k].toNat : Int)]).toArray).size = 2 := by
          show (hexBytes [(a0[k].toNat : Int)]).toArray.size = 2
          rw [List.size_toArray, hexBytes_length]; rfl
        have HXS := Aside0.mk hxs
        clear hxs
        go_wp2_with (go_at_call 42; refine (WriteString_k w.heap.size w.heap.size _ _ _ hI3 ?_ ?_).mono ?_)
        · rw [Lib.byteCells_length, HXS.out, List.length_append, List.length_singleton]; omega
        · exact hb3.size
        rintro e W4 ⟨rfl, h4, b4, k4⟩
        go_wp2
        go_roundw
        case rel =>
          refine ⟨k + 1, by omega, by go_num, ?_, hb3.trans b4⟩
          rw [HS.out, IsBd]
          have e : writeOf a0[k] = 35 :: hexOf a0[k].toNat := by unfold writeOf; rw [HP.out]; rfl
          have e2 : Lib.byteCells (writeBytes (List.take k a0.data.toList) ++ writeOf a0[k]) = Lib.byteCells (writeBytes (List.take k a0.data.toList) ++ [35]) ++ Lib.strCells ⟨(hexBytes [(a0[k].toNat : Int)]).toArray⟩ := by
            rw [e, Lib.byteCells_append, Lib.byteCells_append, List.append_assoc]
            simp [Lib.byteCells, Lib.strCells, hexBytes]
          rw [e2]
          exact .inr h4
        case measure => simp [intOf]; omega
    · go_wp2_with (go_at_call 43; refine (Tryz.Builder_String_any_k w.heap.size w.heap.size _ _ hI hbw.size).mono ?_)
      rintro e W1 ⟨rfl, _, b1, _⟩
      go_wp2
      go_ret
      rw [List.take_of_length_le (by simp; omega)]
      exact ⟨rfl, hbw.trans b1⟩
end Go.Proofs.YtdcldaknmenklaaGreatDoor.M
end
section
namespace Go.Proofs.YtdcldaknmenklaaGreatDoor.M
open Go.RowKit Go.Proofs.YtdcldaknmenklaaGreatDoorW.PrintWords
set_option linter.unusedVariables false
def joinB (l : List ByteArray) (sep : ByteArray) : List UInt8 := Lib.join (l.map (·.data.toList)) sep.data.toList
def strings_Join.f (l0 : List ByteArray) (a1 : ByteArray) : Option ByteArray := if l0.length ≤ 140737488355328 ∧ (joinB l0 a1).length ≤ 140737488355328 then some ⟨(joinB l0 a1).toArray⟩ else none
theorem strings_Join.calls (A0 : Option Addr) (c0 : Nat) (l0 : List ByteArray) (a1 : ByteArray) (r : ByteArray) (w : World) (hr0 : Kd.C Kd.string w A0 l0.length l0) (hc0 : l0.length ≤ c0) (h : strings_Join.f l0 a1 = some r) :
    Calls Tryz.prog 34 #[.slice A0 l0.length c0, .string a1] w fun e w' => e = .returned (.string r) ∧ Below w.heap.size w w' := by
  unfold strings_Join.f at h
  split at h
  case isFalse => cases h
  rename_i hb
  obtain rfl := Option.some.inj h
  by_cases h0 : l0 = []
  · subst h0
    refine (Tryz.strings_Join_none A0 c0 a1 w).mono ?_
    rintro e w' ⟨rfl, rfl⟩
    exact ⟨rfl, Below.refl _ _⟩
  · obtain ⟨b, o, rfl, hbk, hcell⟩ := strings_read hr0 (List.length_pos_iff.2 h0)
    refine (Tryz.strings_Join b o c0 l0 a1 w hcell hbk hb.1 hc0 hb.2).mono ?_
    rintro e w' ⟨rfl, hbw⟩
    exact ⟨rfl, hbw⟩
end Go.Proofs.YtdcldaknmenklaaGreatDoor.M
end
section
namespace Go.Proofs.YtdcldaknmenklaaGreatDoor.M
open Go.RowKit Go.Proofs.YtdcldaknmenklaaGreatDoorW.PrintWords Go.Proofs.YtdcldaknmenklaaGreatDoorW.PrintLast Go.Proofs.YtdcldaknmenklaaGreatDoorW.PrintMore
set_option linter.unusedVariables false
set_option linter.unusedSimpArgs false
def shownL (x : S32) : List UInt8 := if x.f0 = true then Lib.itoa x.f1 else 47 :: writeBytes x.f2.data.toList
def shownB (x : S32) : ByteArray := ⟨(shownL x).toArray⟩
def okShown (x : S32) : Prop := -9223372036854775808 ≤ x.f1 ∧ x.f1 ≤ 9223372036854775807 ∧ x.f2.size * 3 ≤ 140737488355000
instance (x : S32) : Decidable (okShown x) := by unfold okShown; exact inferInstance
def wordsOf (l : List S32) : List ByteArray := (⟨#[91]⟩ : ByteArray) :: (l.map shownB ++ [(⟨#[93]⟩ : ByteArray)])
def diff_Text.f (l0 : List S32) : Option ByteArray := if l0.length ≤ 1000000 ∧ ∀ x ∈ l0, okShown x then strings_Join.f (wordsOf l0) (⟨#[32]⟩ : ByteArray) else none
set_option maxRecDepth 100000 in
theorem shown_int (n : Int) (h0 : -9223372036854775808 ≤ n) (h1 : n ≤ 9223372036854775807) (w : World) (hG : GW w) : Calls Tryz.prog 185 #[.int .i64 n] w fun e w' => e = .returned (.string ⟨(Lib.itoa n).toArray⟩) ∧ Below w.heap.size w w' := by
  go_enter Tryz.func185, Tryz.ntmps185
  go_wp2_with (go_at_call 35; refine (strconv_Itoa.calls n ⟨(Lib.itoa n).toArray⟩ _ hG (by unfold strconv_Itoa.f; rw [if_pos ⟨h0, h1⟩])).mono ?_; rintro e W2 ⟨rfl, hb2⟩)
  go_ret
  exact ⟨rfl, hb2⟩
set_option maxRecDepth 100000 in
theorem shown_name (s : ByteArray) (hs : s.size * 3 ≤ 140737488355000) (w : World) : Calls Tryz.prog 186 #[.string s] w fun e w' => e = .returned (.string ⟨(47 :: writeBytes s.data.toList).toArray⟩) ∧ Below w.heap.size w w' := by
  have hl := writeBytes_length s.data.toList
  have hz : (⟨(writeBytes s.data.toList).toArray⟩ : ByteArray).size ≤ 140737488355000 := by
    show (List.toArray _).size ≤ _
    have : s.data.toList.length = s.size := rfl
    simp only [List.size_toArray]
    omega
  have ha : (⟨#[47]⟩ : ByteArray) ++ ⟨(writeBytes s.data.toList).toArray⟩ = ⟨(47 :: writeBytes s.data.toList).toArray⟩ := by
    apply ByteArray.ext
    simp
  have hx : (9223372036854775807 < 1 + (writeBytes s.data.toList).length) = False := eq_false (by have : s.data.toList.length = s.size := rfl; omega)
  go_enter Tryz.func186, Tryz.ntmps186
  go_wp2_with (go_at_call 187; refine (lex_Write.calls s ⟨(writeBytes s.data.toList).toArray⟩ _ (by unfold lex_Write.f; rw [if_pos (by omega)])).mono ?_; rintro e W2 ⟨rfl, hb2⟩)
  go_ret
  exact ⟨rfl, hb2⟩
theorem method_int (v : Value) (w : World) : (Go.method 352 59 v "hornbook/diff.shown").run Tryz.prog w = .ok (185, v) w := by kernel_rfl
theorem method_name (v : Value) (w : World) : (Go.method 352 60 v "hornbook/diff.shown").run Tryz.prog w = .ok (186, v) w := by kernel_rfl
theorem shownL_int (n : Int) (s : ByteArray) : shownB ⟨true, n, s⟩ = ⟨(Lib.itoa n).toArray⟩ := by unfold shownB shownL; rw [if_pos rfl]
theorem shownL_name (n : Int) (s : ByteArray) : shownB ⟨false, n, s⟩ = ⟨(47 :: writeBytes s.data.toList).toArray⟩ := by unfold shownB shownL; rw [if_neg (by simp)]
set_option maxHeartbeats 4000000 in
set_option maxRecDepth 1000000 in
theorem diff_Text.calls (A0 : Option Addr) (c0 : Nat) (l0 : List S32) (r : ByteArray) (w : World) (hG : GW w) (hr0 : Kd.C k32 w A0 l0.length l0) (hc0 : l0.length ≤ c0) (h : diff_Text.f l0 = some r) :
    Calls Tryz.prog 23 #[.slice A0 l0.length c0] w fun e w' => e = .returned (.string r) ∧ Below w.heap.size w w' := by
  have hu := Tryz.underlying32
  have hm1 := method_int
  have hm2 := method_name
  unfold diff_Text.f at h
  split at h
  case isFalse => cases h
  rename_i hb
  obtain ⟨hlen, hok⟩ := hb
  have HR0 := Aside0.mk hr0
  have HG := Aside0.mk hG
  have HJ := Aside0.mk h
  have HOK := Aside0.mk hok
  clear hr0 hG h hok
  go_enter Tryz.func23, Tryz.ntmps23
  go_wp2
  go_loopw [3, 9] (fun v3 v9 wr => ∃ (k : Nat), k ≤ l0.length ∧ v9 = .int .i64 k ∧ Aside0 (Kd.R Kd.string 9 wr w.heap.size (fun _ => True) v3 ((⟨#[91]⟩ : ByteArray) :: (l0.take k).map shownB)) ∧ Aside0 (Below w.heap.size w wr)) (fun v3 v9 wr => l0.length - (intOf v9).toNat)
  case atStart =>
    refine ⟨0, Nat.zero_le _, rfl, ⟨?_⟩, ⟨below_alloc (Below.refl _ _) _⟩⟩
    exact strings_fresh w [(⟨#[91]⟩ : ByteArray)] _ 1 1 rfl (Nat.le_refl _) (by unfold maxLen; omega) rfl rfl
  case round =>
    obtain ⟨k, hk, rfl, HO, HB⟩ := hrel
    by_cases hlt : k < l0.length
    · have hrd : rd_T32 l0 (k : Int) = l0[k] := by
        unfold rd_T32
        rw [Int.toNat_natCast, List.getD_eq_getElem?_getD, List.getElem?_eq_getElem hlt]
        rfl
      obtain ⟨ad1, e1, hx0, hx1, hx2⟩ := at_T32 (Kd.C_below HR0.out HB.out) (k : Int) (by omega) (by omega)
      subst e1
      rw [hrd, Int.toNat_natCast] at hx0 hx1 hx2
      have hokx := HOK.out _ (List.getElem_mem hlt)
      have HT := Aside0.mk (show (l0.take (k + 1)).map shownB = (l0.take k).map shownB ++ [shownB l0[k]] by rw [List.take_succ_eq_append_getElem hlt, List.map_append]; rfl)
      clear hrd
      generalize l0[k] = x at hx0 hx1 hx2 hokx HT
      obtain ⟨xb, xn, xs0⟩ := x
      dsimp only at hx0 hx1 hx2
      obtain ⟨o1, o2, o3⟩ := hokx
      dsimp only at o1 o2 o3
      have hlt2 : decide ((k : Int) < (l0.length : Int)) = true := decide_eq_true (by omega)
      have hlk : ((⟨#[91]⟩ : ByteArray) :: (l0.take k).map shownB).length = k + 1 := by rw [List.length_cons, List.length_map, List.length_take]; omega
      cases xb with
      | true =>
        rw [shownL_int] at HT
        go_wp2_with (first | (go_at_call 28; refine (says_int xn xs0 _).mono ?_; rintro e W2 ⟨rfl, hb2⟩; have n1_ := Aside0.mk (below_step (below_alloc HB.out _) hb2); have n0_ := Aside0.mk (Kd.R_below (Kd.R_alloc HO.out _) hb2); clear hb2 HO HB; have HO := n0_; have HB := n1_; clear n0_ n1_; clear hx0 hx1 hx2) | (go_at_call 185; refine (shown_int xn o1 o2 _ (GW.below HB.out HG.out)).mono ?_; rintro e W3 ⟨rfl, hb3⟩; have n1_ := Aside0.mk (below_step HB.out hb3); have n0_ := Aside0.mk (Kd.R_below HO.out hb3); clear hb3 HO HB; have HO := n0_; have HB := n1_; clear n0_ n1_) | ((with_reducible refine gate_builtin (b := .append) (xs := #[.tmp 13, .tmp 17]) rfl ?_); at_builtin; refine Kd.R_append Kd.string (w0 := w) w.heap.size rfl (.tmp 13) (.tmp 17) 25 9 (.string ⟨#[]⟩) 16 rfl Tryz.underlying25 info9 rfl (by decide) (by omega) _ ((⟨#[91]⟩ : ByteArray) :: (l0.take k).map shownB) ⟨(Lib.itoa xn).toArray⟩ [.string ⟨(Lib.itoa xn).toArray⟩] (fun _ => True) (fun _ => False) rfl rfl ?aP (fun _ hk => hk.elim) ?aF ?aO ?aB ?aS ?aL ?_; (case aP => exact rfl); (case aB => exact HB.out); (case aF => exact (fun _ _ => trivial)); (case aO => exact HO.out); (case aS => exact below_size HB.out); (case aL => omega); intro v4 w4 ho hb hg hat; have n1_ := Aside0.mk (hb); have n0_ := Aside0.mk (ho); clear ho hb HO HB; have HO := n0_; have HB := n1_; clear n0_ n1_; clear hg hat))
        refine ⟨⟨k + 1, by omega, by go_num, ⟨by rw [HT.out]; exact HO.out⟩, HB⟩, ?_⟩
        simp [intOf]
        omega
      | false =>
        rw [shownL_name] at HT
        go_wp2_with (first | (go_at_call 28; refine (says_name xn xs0 _).mono ?_; rintro e W2 ⟨rfl, hb2⟩; have n1_ := Aside0.mk (below_step (below_alloc HB.out _) hb2); have n0_ := Aside0.mk (Kd.R_below (Kd.R_alloc HO.out _) hb2); clear hb2 HO HB; have HO := n0_; have HB := n1_; clear n0_ n1_; clear hx0 hx1 hx2) | (go_at_call 186; refine (shown_name xs0 o3 _).mono ?_; rintro e W3 ⟨rfl, hb3⟩; have n1_ := Aside0.mk (below_step HB.out hb3); have n0_ := Aside0.mk (Kd.R_below HO.out hb3); clear hb3 HO HB; have HO := n0_; have HB := n1_; clear n0_ n1_) | ((with_reducible refine gate_builtin (b := .append) (xs := #[.tmp 13, .tmp 17]) rfl ?_); at_builtin; refine Kd.R_append Kd.string (w0 := w) w.heap.size rfl (.tmp 13) (.tmp 17) 25 9 (.string ⟨#[]⟩) 16 rfl Tryz.underlying25 info9 rfl (by decide) (by omega) _ ((⟨#[91]⟩ : ByteArray) :: (l0.take k).map shownB) ⟨(47 :: writeBytes xs0.data.toList).toArray⟩ [.string ⟨(47 :: writeBytes xs0.data.toList).toArray⟩] (fun _ => True) (fun _ => False) rfl rfl ?aP (fun _ hk => hk.elim) ?aF ?aO ?aB ?aS ?aL ?_; (case aP => exact rfl); (case aB => exact HB.out); (case aF => exact (fun _ _ => trivial)); (case aO => exact HO.out); (case aS => exact below_size HB.out); (case aL => omega); intro v4 w4 ho hb hg hat; have n1_ := Aside0.mk (hb); have n0_ := Aside0.mk (ho); clear ho hb HO HB; have HO := n0_; have HB := n1_; clear n0_ n1_; clear hg hat))
        refine ⟨⟨k + 1, by omega, by go_num, ⟨by rw [HT.out]; exact HO.out⟩, HB⟩, ?_⟩
        simp [intOf]
        omega
    · have hkl : k = l0.length := by omega
      subst hkl
      have HW := Aside0.mk (show ((⟨#[91]⟩ : ByteArray) :: (l0.take l0.length).map shownB) ++ [(⟨#[93]⟩ : ByteArray)] = wordsOf l0 by rw [List.take_length]; rfl)
      have hlk : ((⟨#[91]⟩ : ByteArray) :: (l0.take l0.length).map shownB).length = l0.length + 1 := by rw [List.length_cons, List.length_map, List.length_take]; omega
      obtain ⟨NW, hNW⟩ : ∃ NW : Nat, (wordsOf l0).length = NW := ⟨_, rfl⟩
      have HNW := Aside0.mk hNW
      clear hNW
      go_wp2_with (first | ((with_reducible refine gate_builtin (b := .append) (xs := #[.tmp 20, .tmp 21]) rfl ?_); at_builtin; refine Kd.R_append Kd.string (w0 := w) w.heap.size rfl (.tmp 20) (.tmp 21) 25 9 (.string ⟨#[]⟩) 16 rfl Tryz.underlying25 info9 rfl (by decide) (by omega) _ ((⟨#[91]⟩ : ByteArray) :: (l0.take l0.length).map shownB) (⟨#[93]⟩ : ByteArray) [.string (⟨#[93]⟩ : ByteArray)] (fun _ => True) (fun _ => False) rfl rfl ?aP (fun _ hk => hk.elim) ?aF ?aO ?aB ?aS ?aL ?_; (case aP => exact rfl); (case aB => exact (by repeat (first | exact HB.out | apply below_alloc))); (case aF => exact (fun _ _ => trivial)); (case aO => exact (by (with_reducible repeat (first | apply Kd.R_alloc)); exact HO.out)); (case aS => exact (below_size (by repeat (first | exact HB.out | apply below_alloc)))); (case aL => omega); intro v4 w4 ho hb hg hat; rw [HW.out] at ho; obtain ⟨Ao, co, eo⟩ := Kd.R_slice ho; rw [HNW.out] at eo; subst eo; have HJC := Aside0.mk (strings_Join.calls Ao co (wordsOf l0) (⟨#[32]⟩ : ByteArray) r w4 (Kd.R_reads' ho).2.2 (by rw [HNW.out]; exact (Kd.R_reads' ho).2.1) HJ.out); have HB4 := Aside0.mk hb; clear ho hb hg hat) | (go_at_call 34; have hj_ := HJC.out; rw [HNW.out] at hj_; refine hj_.mono ?_; rintro e W5 ⟨rfl, hb5⟩; have HB5 := Aside0.mk (below_step HB4.out hb5); clear hj_ hb5))
      go_ret
      exact ⟨rfl, HB5.out⟩
end Go.Proofs.YtdcldaknmenklaaGreatDoor.M
end
section
namespace Go.Proofs.YtdcldaknmenklaaGreatDoor.M
open Go.RowKit Go.Proofs.YtdcldaknmenklaaGreatDoorW.PrintWords Go.Proofs.YtdcldaknmenklaaGreatDoorW.PrintLast Go.Proofs.YtdcldaknmenklaaGreatDoorW.PrintMore
set_option linter.unusedVariables false
set_option linter.unusedSimpArgs false
def noName : ByteArray := ⟨#[]⟩
/-- The names as an array's value. -/
def namesV (l : List ByteArray) : Array Value := (l.map Value.string).toArray
def asciiL (nm : List ByteArray) : List ByteArray := List.replicate 32 noName ++ nm.take 95 ++ List.replicate 129 noName
theorem zero_names : Tryz.zeroCells73 = namesV (List.replicate 256 noName) := by kernel_rfl
theorem namesV_size (l : List ByteArray) : (namesV l).size = l.length := by simp [namesV]
theorem namesV_one (l : List ByteArray) : (namesV l).all (·.oneCell') = true := by
  rw [Array.all_eq_true]
  intro i hi
  simp [namesV, Value.oneCell']
theorem asciiL_length (nm : List ByteArray) (h : 95 ≤ nm.length) : (asciiL nm).length = 256 := by
  simp [asciiL]; omega
theorem ascii_row (nm : List ByteArray) (h : 95 ≤ nm.length) : ((namesV (List.replicate 256 noName)).toList.take 32 ++ (nm.take 95).map Value.string ++ (namesV (List.replicate 256 noName)).toList.drop (32 + 95)).toArray = namesV (asciiL nm) := by
  simp only [namesV, List.toList_toArray, List.map_replicate, List.take_replicate, List.drop_replicate, asciiL, List.map_append]
  rfl
theorem heap_setRow_ne (w : World) (g i : Nat) (cs : Array Value) (h : i ≠ g) : (w.setRow g cs).heap[i]? = w.heap[i]? := by
  unfold World.setRow
  rw [Array.getElem?_modify, if_neg (fun e => h e.symm)]
theorem names_cell {w : World} {b q : Nat} {m : List ByteArray} {t : TypeId} (h : w.heap[b]? = some (.cells (namesV m) t (0, 0))) (hq : q < m.length) :
    w.cell? ⟨b, q, none⟩ = some (.string m[q]) ∧ w.frozen? ⟨b, q, none⟩ = false := by
  constructor
  · simp [World.cell?, h, namesV, hq]
  · simp [World.frozen?, h]
theorem names_set {w : World} {b q : Nat} {m : List ByteArray} {t : TypeId} (x : ByteArray) (h : w.heap[b]? = some (.cells (namesV m) t (0, 0))) :
    (w.setCell ⟨b, q, none⟩ (.string x)).heap[b]? = some (.cells (namesV (m.set q x)) t (0, 0)) := by
  rw [heap_setCell_same w b q _ t _ h]
  simp [namesV, List.map_set]
theorem cell_set_other (w : World) (b q : Nat) (v : Value) (a : Addr) (h : a.block ≠ b) : (w.setCell ⟨b, q, none⟩ v).cell? a = w.cell? a := by
  unfold World.cell?
  rw [heap_setCell_other w ⟨b, q, none⟩ a.block v h]
end Go.Proofs.YtdcldaknmenklaaGreatDoor.M
end
section
namespace Go.Proofs.YtdcldaknmenklaaGreatDoor.M
open Go.RowKit Go.Proofs.YtdcldaknmenklaaGreatDoorW.PrintWords
set_option linter.unusedVariables false
def slices_Grow_string_string.f (l0 : List ByteArray) (a1 : Int) : Option (List ByteArray) := if l0 = [] ∧ 0 ≤ a1 ∧ a1 ≤ 8796093022208 then some [] else none
set_option maxHeartbeats 4000000 in
set_option maxRecDepth 100000 in
theorem slices_Grow_string_string.calls_nil (a1 : Int) (r : List ByteArray) (w : World) (h : slices_Grow_string_string.f [] a1 = some r) :
    Calls Tryz.prog 141 #[.slice none 0 0, .int .i64 a1] w fun e w' => ∃ v0_ : Value, e = .returned (v0_) ∧ Kd.R Kd.string 9 w' w.heap.size (fun _ => True) v0_ r ∧ Below w.heap.size w w' := by
  unfold slices_Grow_string_string.f at h
  split at h
  case isFalse => cases h
  rename_i hb
  obtain rfl := Option.some.inj h
  clear h
  obtain ⟨-, h0, h1⟩ := hb
  obtain ⟨n, rfl⟩ := Int.eq_ofNat_of_zero_le h0
  clear h0
  by_cases hz : n = 0
  · subst hz
    go_enter Tryz.func141, Tryz.ntmps141
    go_wp2
    all_goals (go_ret; exact ⟨_, rfl, Kd.R_nil _ _ _ _ _, Below.refl _ _⟩)
  · have hmap : (Tryz.prog.info? 9).map (fun i => (i.zero, i.size, i.bytes)) = some (some (.string ⟨#[]⟩), 1, 16) := by kernel_rfl
    obtain ⟨i, hi, hi2⟩ := Option.map_eq_some_iff.1 hmap
    simp only [Prod.mk.injEq] at hi2
    obtain ⟨hi0, hi1, hib⟩ := hi2
    have hrz := fun ty => Lib.run_append_nil_zeros (P := Tryz.prog) w 25 3 ty 9 i (.string ⟨#[]⟩) .i64 .i64 Tryz.underlying25 Tryz.underlying3 hi hi0 n (by omega) (by omega) (by omega) (by rw [hib]; omega)
    clear hmap hi hi0 hi1 hib
    have hGn : n ≤ grownCap w n 0 9 := grownCap_ge w _ _ _
    have hG := grownCap_le_maxLen w n 0 9 (by unfold maxLen; omega)
    generalize grownCap w n 0 9 = G at hrz hGn hG
    go_enter Tryz.func141, Tryz.ntmps141
    go_wp2_with (at_builtin; refine Lib.wpList_append_run _ rfl _ _ _ _ rfl _ _ rfl rfl _ _ (hrz _) ?_)
    all_goals (go_ret; refine ⟨_, rfl, ?_, below_alloc (below_drew (Below.refl _ w)) _⟩)
    all_goals exact strings_fresh w.drew [] _ 0 G rfl (Nat.zero_le _) hG (by rw [Array.size_append, size_zeroCells, size_zeroCells]; show n * 1 + (G - n) * 1 = G; omega) (by simp)
end Go.Proofs.YtdcldaknmenklaaGreatDoor.M
end
section
/- Laid by this session's program hbprint.py out of the translation: the function slices.Concat   string string  and its contract. -/
namespace Go.Proofs.YtdcldaknmenklaaGreatDoor.M
open Go.RowKit Go.Proofs.YtdcldaknmenklaaGreatDoorW.PrintWords Go.Proofs.YtdcldaknmenklaaGreatDoorW.PrintLast Go.Proofs.YtdcldaknmenklaaGreatDoorW.PrintMore
attribute [local go_sem] max2_int min2_int max_two min_two max_three min_three max_four min_four
set_option linter.unusedVariables false
set_option linter.unusedSimpArgs false
mutual
def slices_Concat_string_string.l0 : Nat → List (List ByteArray) → Int → List (List ByteArray) → Int → Int → Option (List ByteArray)
  | 0, _, _, _, _, _ => none
  | k + 1, x0, x3, x9, x10, x11 => if x11 < x10 then (if 0 ≤ x11 then (if x11 < (x9.length : Int) then (if (wrap64 (x3 + ((rd_L1 x9 x11).length : Int))) < 0 then (none) else (slices_Concat_string_string.l0 k x0 (wrap64 (x3 + ((rd_L1 x9 x11).length : Int))) x9 x10 (wrap64 (x11 + 1)))) else (none)) else (none)) else ((slices_Grow_string_string.f ([] : List ByteArray) x3).bind fun t126 => (slices_Concat_string_string.l1 k t126 x0 (x0.length : Int) 0))
def slices_Concat_string_string.l1 : Nat → List ByteArray → List (List ByteArray) → Int → Int → Option (List ByteArray)
  | 0, _, _, _, _ => none
  | k + 1, x6, x25, x26, x27 => if x27 < x26 then (if 0 ≤ x27 then (if x27 < (x25.length : Int) then (if x6.length + (rd_L1 x25 x27).length < 8796093022208 then (slices_Concat_string_string.l1 k (x6 ++ (rd_L1 x25 x27)) x25 x26 (wrap64 (x27 + 1))) else (none)) else (none)) else (none)) else (some x6)
end
def slices_Concat_string_string.f (k : Nat) (l0 : List (List ByteArray)) : Option (List ByteArray) := slices_Concat_string_string.l0 k l0 0 l0 (l0.length : Int) 0
theorem slices_Concat_string_string.mono_l : ∀ k, (∀ y0 y1 y2 y3 y4, LeO (slices_Concat_string_string.l0 k y0 y1 y2 y3 y4) (slices_Concat_string_string.l0 (k + 1) y0 y1 y2 y3 y4)) ∧ (∀ y0 y1 y2 y3, LeO (slices_Concat_string_string.l1 k y0 y1 y2 y3) (slices_Concat_string_string.l1 (k + 1) y0 y1 y2 y3))
  | 0 => ⟨fun _ _ _ _ _ r h => by simp [slices_Concat_string_string.l0] at h, fun _ _ _ _ r h => by simp [slices_Concat_string_string.l1] at h⟩
  | k + 1 => by
    obtain ⟨ih0, ih1⟩ := slices_Concat_string_string.mono_l k
    refine ⟨?_, ?_⟩
    · intro y0 y1 y2 y3 y4
      unfold slices_Concat_string_string.l0
      repeat' first
      | (with_reducible exact ih0 _ _ _ _ _)
      | (with_reducible exact ih1 _ _ _ _)
      | (with_reducible exact LeO.refl _)
      | (with_reducible exact LeO.none _)
      | (with_reducible refine LeO.ite ?_ ?_)
      | (with_reducible refine LeO.bind ?_ (fun _ => ?_))
      | exact ih0 _ _ _ _ _
      | exact ih1 _ _ _ _
      | exact LeO.none _
      | refine LeO.ite ?_ ?_
      | refine LeO.bind ?_ (fun _ => ?_)
    · intro y0 y1 y2 y3
      unfold slices_Concat_string_string.l1
      repeat' first
      | (with_reducible exact ih0 _ _ _ _ _)
      | (with_reducible exact ih1 _ _ _ _)
      | (with_reducible exact LeO.refl _)
      | (with_reducible exact LeO.none _)
      | (with_reducible refine LeO.ite ?_ ?_)
      | (with_reducible refine LeO.bind ?_ (fun _ => ?_))
      | exact ih0 _ _ _ _ _
      | exact ih1 _ _ _ _
      | exact LeO.none _
      | refine LeO.ite ?_ ?_
      | refine LeO.bind ?_ (fun _ => ?_)
theorem slices_Concat_string_string.mono : ∀ a0 k, LeO (slices_Concat_string_string.f k a0) (slices_Concat_string_string.f (k + 1) a0) := by
  intro a0 k
  obtain ⟨ih0, ih1⟩ := slices_Concat_string_string.mono_l k
  unfold slices_Concat_string_string.f
  repeat' first
      | (with_reducible exact ih0 _ _ _ _ _)
      | (with_reducible exact ih1 _ _ _ _)
      | (with_reducible exact LeO.refl _)
      | (with_reducible exact LeO.none _)
      | (with_reducible refine LeO.ite ?_ ?_)
      | (with_reducible refine LeO.bind ?_ (fun _ => ?_))
      | exact ih0 _ _ _ _ _
      | exact ih1 _ _ _ _
      | exact LeO.none _
      | refine LeO.ite ?_ ?_
      | refine LeO.bind ?_ (fun _ => ?_)
set_option maxHeartbeats 8000000 in
set_option maxRecDepth 100000 in
theorem slices_Concat_string_string.calls (k : Nat) (A0 : Option Addr) (c0 : Nat) (l0 : List (List ByteArray)) (r : List ByteArray) (w : World) (hr0 : Kd.C (Kd.slice 9 Kd.string) w A0 l0.length l0) (hc0 : l0.length ≤ c0) (h : slices_Concat_string_string.f k l0 = some r) :
    Calls Tryz.prog 123 #[.slice A0 l0.length c0] w fun e w' => ∃ v0_ : Value, e = .returned (v0_) ∧ Kd.R Kd.string 9 w' w.heap.size (fun _ => True) v0_ r ∧ Below w.heap.size w w' := by
  have HR0 := Aside0.mk hr0
  have HC0 := Aside0.mk hc0
  clear hr0 hc0
  have HB := Aside0.mk (Below.refl w.heap.size w)
  have H : (slices_Concat_string_string.l0 k l0 0 l0 (l0.length : Int) 0) = some r := h
  clear h
  have H' := Aside0.mk H
  clear H
  go_enter Tryz.func123, Tryz.ntmps123
  go_wp2
  go_loopg [3, 11] k (fun kq v3 v11 w' => ∃ (x3_1 : Int) (x11_1 : Int), v3 = .int .i64 x3_1 ∧ v11 = .int .i64 x11_1 ∧ Aside0 (slices_Concat_string_string.l0 kq l0 x3_1 l0 (l0.length : Int) x11_1 = some r) ∧ Aside0 (kq ≤ k) ∧ Aside0 (Below w.heap.size w w'))
  case atStart => exact ⟨(0), (0), (by first | rfl | (simp; done) | (simp [*]; done)), (by first | rfl | (simp; done) | (simp [*]; done)), H', ⟨Nat.le_refl _⟩, ⟨by repeat (first | (with_reducible first | exact HB.out | apply below_alloc | apply pw_below_drewN | apply below_drew1) | exact HB.out)⟩⟩
  case round =>
    clear H'
    try clear c1
    obtain ⟨x3_1, x11_1, rfl, rfl, HA, HK1, HB⟩ := hrel
    cases gk with
    | zero => exact absurd HA.out (by simp [slices_Concat_string_string.l0])
    | succ k1 =>
      have H := HA.out
      clear HA
      simp only [slices_Concat_string_string.l0] at H
      by_cases c2 : x11_1 < (l0.length : Int)
      · rw [if_pos c2] at H
        have c2b0 : decide (x11_1 < (l0.length : Int)) = true := decide_eq_true c2
        clear c2
        by_cases c3 : 0 ≤ x11_1
        · rw [if_pos c3] at H
          have c3b0 : decide (0 ≤ x11_1) = true := decide_eq_true c3
          clear c3
          by_cases c4 : x11_1 < (l0.length : Int)
          · rw [if_pos c4] at H
            have c4b0 : decide (x11_1 < (l0.length : Int)) = true := decide_eq_true c4
            clear c4
            by_cases c5 : (wrap64 (x3_1 + ((rd_L1 l0 x11_1).length : Int))) < 0
            · rw [if_pos c5] at H
              exact absurd H (by simp)
            · rw [if_neg c5] at H
              have c5b0 : decide ((wrap64 (x3_1 + ((rd_L1 l0 x11_1).length : Int))) < 0) = false := decide_eq_false c5
              clear c5
              have H' := Aside0.mk H
              clear H
              have p125 : 0 ≤ (x11_1 : Int) := of_decide_eq_true (by first | (with_reducible assumption) | assumption)
              have q125 : x11_1 < (l0.length : Int) := of_decide_eq_true (by first | (with_reducible assumption) | assumption)
              obtain ⟨ad125, A125_0, c125_0, e125, hx125_0, hl125_0, hi125_0⟩ := at_L1 HR0.out x11_1 p125 q125
              cases e125
              replace hx125_0 := (HB.out.cell (World.block_lt_of_cell? w _ hx125_0)).trans hx125_0
              have HR125_0 := Aside0.mk hi125_0
              have HC125_0 := Aside0.mk hl125_0
              clear hi125_0 hl125_0
              replace p125 := eq_true p125
              replace q125 := eq_true q125
              go_wp2
              go_roundg k1
              case measure => have := HK1.out; omega
              case rel => exact ⟨(wrap64 (x3_1 + ((rd_L1 l0 x11_1).length : Int))), (wrap64 (x11_1 + 1)), (by first | rfl | (simp; done) | (simp [*]; done)), (by first | rfl | (simp; done) | (simp [*]; done)), H', ⟨by have := HK1.out; omega⟩, ⟨by repeat (first | (with_reducible first | exact HB.out | apply below_alloc | apply pw_below_drewN | apply below_drew1) | exact HB.out)⟩⟩
          · rw [if_neg c4] at H
            exact absurd H (by simp)
        · rw [if_neg c3] at H
          exact absurd H (by simp)
      · rw [if_neg c2] at H
        have c2b0 : decide (x11_1 < (l0.length : Int)) = false := decide_eq_false c2
        clear c2
        replace H := Option.bind_eq_some_iff.mp H
        obtain ⟨t126, A60, H⟩ := H
        replace H : (slices_Concat_string_string.l1 k1 t126 l0 (l0.length : Int) 0) = some r := H
        have A6 := Aside0.mk A60
        clear A60
        have H' := Aside0.mk H
        clear H
        go_wp2_with (first | ((with_reducible refine gate_callee (f := 141) rfl ?_); refine goesL_ (some 24) rfl rfl Tryz.func141 (by kernel_rfl) rfl #[.slice none 0 0, .int .i64 x3_1] rfl (by (try simp only [List.map_toArray, List.map_cons, List.map_nil]); first | done | rfl | (simp only [List.length_drop, List.length_take]; rfl)) ?_; (refine (slices_Grow_string_string.calls_nil x3_1 t126 _ A6.out).mono ?_); rintro e w7 ⟨v127, rfl, ho0, hb⟩; refine ⟨_, rfl, ?_⟩; have n0_ := Aside0.mk (Kd.R_lower ho0 (below_size (by repeat (first | (with_reducible first | exact HB.out | apply below_alloc | apply pw_below_drewN | apply below_drew1) | exact HB.out)))); have n1_ := Aside0.mk (below_step (by repeat (first | (with_reducible first | exact HB.out | apply below_alloc | apply pw_below_drewN | apply below_drew1) | exact HB.out)) hb); clear HB; have HO128 := n0_; have HB := n1_; clear n0_ n1_; (try clear hb); (try clear hb2); (try clear hk); (try clear hi); (try clear ho0)))
        go_loopg [6, 27] k1 (fun kq v6 v27 w' => ∃ (x6_2 : List ByteArray) (x27_2 : Int), v27 = .int .i64 x27_2 ∧ Aside0 (slices_Concat_string_string.l1 kq x6_2 l0 (l0.length : Int) x27_2 = some r) ∧ Aside0 (kq ≤ k1) ∧ Aside0 (Kd.R Kd.string 9 w' w.heap.size (fun _ => True) v6 x6_2) ∧ Aside0 (Below w.heap.size w w'))
        case atStart => exact ⟨(t126), (0), (by first | rfl | (simp; done) | (simp [*]; done)), H', ⟨Nat.le_refl _⟩, ⟨by (with_reducible repeat (first | apply Kd.R_alloc | apply Kd.R_drewN | apply Kd.R_drew)); exact HO128.out⟩, ⟨by repeat (first | (with_reducible first | exact HB.out | apply below_alloc | apply pw_below_drewN | apply below_drew1) | exact HB.out)⟩⟩
        case round =>
          clear H'
          try clear c1
          try clear p1
          try clear q1
          try clear hx1
          try clear c2
          try clear c2b0
          try clear p2
          try clear c3
          try clear c3b0
          try clear c4
          try clear c4b0
          try clear c5
          try clear c5b0
          try clear p6
          try clear hx125_0
          try clear p125
          try clear q125
          obtain ⟨x6_2, x27_2, rfl, HA, HK2, HO_6, HB⟩ := hrel
          cases gk with
          | zero => exact absurd HA.out (by simp [slices_Concat_string_string.l1])
          | succ k2 =>
            have H := HA.out
            clear HA
            simp only [slices_Concat_string_string.l1] at H
            by_cases c8 : x27_2 < (l0.length : Int)
            · rw [if_pos c8] at H
              have c8b0 : decide (x27_2 < (l0.length : Int)) = true := decide_eq_true c8
              clear c8
              by_cases c9 : 0 ≤ x27_2
              · rw [if_pos c9] at H
                have c9b0 : decide (0 ≤ x27_2) = true := decide_eq_true c9
                clear c9
                by_cases c10 : x27_2 < (l0.length : Int)
                · rw [if_pos c10] at H
                  have c10b0 : decide (x27_2 < (l0.length : Int)) = true := decide_eq_true c10
                  clear c10
                  by_cases c11 : x6_2.length + (rd_L1 l0 x27_2).length < 8796093022208
                  · rw [if_pos c11] at H
                    have LMc11 := Aside0.mk c11
                    clear c11
                    obtain ⟨y130, hy130⟩ : ∃ y_ : List ByteArray, y_ = (x6_2 ++ (rd_L1 l0 x27_2)) := ⟨_, rfl⟩
                    replace H : (slices_Concat_string_string.l1 k2 y130 l0 (l0.length : Int) (wrap64 (x27_2 + 1))) = some r := by first | (rw [hy130]; with_reducible exact H) | (have H2_ := (Option.bind_some _ _).symm.trans H; rw [hy130]; with_reducible exact H2_) | (have H2_ := (Option.bind_some _ _).symm.trans H; with_reducible exact H2_) | with_reducible exact H | (rw [hy130]; exact H) | exact H
                    have Ny130 := Aside0.mk hy130
                    clear hy130
                    have H' := Aside0.mk H
                    clear H
                    have p129 : 0 ≤ (x27_2 : Int) := of_decide_eq_true (by first | (with_reducible assumption) | assumption)
                    have q129 : x27_2 < (l0.length : Int) := of_decide_eq_true (by first | (with_reducible assumption) | assumption)
                    obtain ⟨ad129, A129_0, c129_0, e129, hx129_0, hl129_0, hi129_0⟩ := at_L1 HR0.out x27_2 p129 q129
                    cases e129
                    replace hx129_0 := (HB.out.cell (World.block_lt_of_cell? w _ hx129_0)).trans hx129_0
                    have HR129_0 := Aside0.mk hi129_0
                    have HC129_0 := Aside0.mk hl129_0
                    clear hi129_0 hl129_0
                    replace p129 := eq_true p129
                    replace q129 := eq_true q129
                    go_wp2_with (first | ((with_reducible refine gate_builtin (b := .append) (xs := #[.tmp 31, .tmp 32]) rfl ?_); at_builtin; refine Kd.R_append_rows Kd.string (w0 := w) w.heap.size rfl (.tmp 31) (.tmp 32) 25 9 (.string ⟨#[]⟩) 16 rfl Tryz.underlying25 info9 rfl (by decide) (by omega) u6 x6_2 (rd_L1 l0 x27_2) _ _ _ (fun _ => True) (fun _ => False) rfl rfl ?aO ?aR (fun _ _ h => h) (fun _ h => h.elim) ?aF ?aB ?aS ?aL ?_; (case aR => repeat (first | exact (Kd.C_below HR129_0.out HB.out) | (with_reducible refine Kd.C_alloc ?_ _) | (with_reducible refine Kd.C_drewN ?_ _) | (with_reducible refine Kd.C_drew ?_))); (case aB => exact (by repeat (first | (with_reducible first | exact HB.out | apply below_alloc | apply pw_below_drewN | apply below_drew1) | exact HB.out))); (case aF => exact (fun _ _ => trivial)); (case aO => exact (by (with_reducible repeat (first | apply Kd.R_alloc | apply Kd.R_drewN | apply Kd.R_drew)); exact HO_6.out)); (case aS => exact (below_size (by repeat (first | (with_reducible first | exact HB.out | apply below_alloc | apply pw_below_drewN | apply below_drew1) | exact HB.out)))); (case aL => have := LMc11.out; omega); intro v131 w12 ho hb hg hat; rw [← Ny130.out] at ho; have n0_ := Aside0.mk (hb); have n1_ := Aside0.mk (ho); clear HB; clear HO_6; have HB := n0_; have HO132 := n1_; clear n0_ n1_; clear ho hb hg hat))
                    go_roundg k2
                    case measure => have := HK1.out; have := HK2.out; omega
                    case rel => exact ⟨(y130), (wrap64 (x27_2 + 1)), (by first | rfl | (simp; done) | (simp [*]; done)), H', ⟨by have := HK1.out; have := HK2.out; omega⟩, ⟨by (with_reducible repeat (first | apply Kd.R_alloc | apply Kd.R_drewN | apply Kd.R_drew)); exact HO132.out⟩, ⟨by repeat (first | (with_reducible first | exact HB.out | apply below_alloc | apply pw_below_drewN | apply below_drew1) | exact HB.out)⟩⟩
                  · rw [if_neg c11] at H
                    exact absurd H (by simp)
                · rw [if_neg c10] at H
                  exact absurd H (by simp)
              · rw [if_neg c9] at H
                exact absurd H (by simp)
            · rw [if_neg c8] at H
              have c8b0 : decide (x27_2 < (l0.length : Int)) = false := decide_eq_false c8
              clear c8
              obtain rfl := Option.some.inj H
              go_wp2
              go_ret
              exact ⟨_, by first | rfl | (simp [errW_none, errW_some] <;> rfl) | (simp [*, errW_none, errW_some] <;> rfl), by (with_reducible repeat (first | apply Kd.R_alloc | apply Kd.R_drewN | apply Kd.R_drew)); exact HO_6.out, by repeat (first | (with_reducible first | exact HB.out | apply below_alloc | apply pw_below_drewN | apply below_drew1) | exact HB.out)⟩
end Go.Proofs.YtdcldaknmenklaaGreatDoor.M
end
section
/- Laid by this session's program hbprint.py out of the translation: the function hornbook/glyph.part1 and its contract. -/
namespace Go.Proofs.YtdcldaknmenklaaGreatDoor.M
open Go.RowKit Go.Proofs.YtdcldaknmenklaaGreatDoorW.PrintWords Go.Proofs.YtdcldaknmenklaaGreatDoorW.PrintLast Go.Proofs.YtdcldaknmenklaaGreatDoorW.PrintMore
attribute [local go_sem] max2_int min2_int max_two min_two max_three min_three max_four min_four
set_option linter.unusedVariables false
set_option linter.unusedSimpArgs false
def glyph_part1.f  : Option (List ByteArray) := some (([(⟨#[115, 112, 97, 99, 101, 61, 48, 48, 50, 48, 32, 101, 120, 99, 108, 97, 109, 61, 48, 48, 50, 49, 32, 113, 117, 111, 116, 101, 100, 98, 108, 61, 48, 48, 50, 50, 32, 110, 117, 109, 98, 101, 114, 115, 105, 103, 110, 61, 48, 48, 50, 51, 32, 100, 111, 108, 108, 97, 114, 61, 48, 48, 50, 52, 32, 112, 101, 114, 99, 101, 110, 116, 61, 48, 48, 50, 53]⟩ : ByteArray), (⟨#[97, 109, 112, 101, 114, 115, 97, 110, 100, 61, 48, 48, 50, 54, 32, 113, 117, 111, 116, 101, 115, 105, 110, 103, 108, 101, 61, 48, 48, 50, 55, 32, 112, 97, 114, 101, 110, 108, 101, 102, 116, 61, 48, 48, 50, 56, 32, 112, 97, 114, 101, 110, 114, 105, 103, 104, 116, 61, 48, 48, 50, 57, 32, 97, 115, 116, 101, 114, 105, 115, 107, 61, 48, 48, 50, 65, 32, 112, 108, 117, 115, 61, 48, 48, 50, 66]⟩ : ByteArray), (⟨#[99, 111, 109, 109, 97, 61, 48, 48, 50, 67, 32, 104, 121, 112, 104, 101, 110, 61, 48, 48, 50, 68, 32, 112, 101, 114, 105, 111, 100, 61, 48, 48, 50, 69, 32, 115, 108, 97, 115, 104, 61, 48, 48, 50, 70, 32, 122, 101, 114, 111, 61, 48, 48, 51, 48, 32, 111, 110, 101, 61, 48, 48, 51, 49]⟩ : ByteArray), (⟨#[116, 119, 111, 61, 48, 48, 51, 50, 32, 116, 104, 114, 101, 101, 61, 48, 48, 51, 51, 32, 102, 111, 117, 114, 61, 48, 48, 51, 52, 32, 102, 105, 118, 101, 61, 48, 48, 51, 53, 32, 115, 105, 120, 61, 48, 48, 51, 54, 32, 115, 101, 118, 101, 110, 61, 48, 48, 51, 55]⟩ : ByteArray), (⟨#[101, 105, 103, 104, 116, 61, 48, 48, 51, 56, 32, 110, 105, 110, 101, 61, 48, 48, 51, 57, 32, 99, 111, 108, 111, 110, 61, 48, 48, 51, 65, 32, 115, 101, 109, 105, 99, 111, 108, 111, 110, 61, 48, 48, 51, 66, 32, 108, 101, 115, 115, 61, 48, 48, 51, 67, 32, 101, 113, 117, 97, 108, 61, 48, 48, 51, 68]⟩ : ByteArray), (⟨#[103, 114, 101, 97, 116, 101, 114, 61, 48, 48, 51, 69, 32, 113, 117, 101, 115, 116, 105, 111, 110, 61, 48, 48, 51, 70, 32, 97, 116, 61, 48, 48, 52, 48, 32, 65, 61, 48, 48, 52, 49, 32, 66, 61, 48, 48, 52, 50, 32, 67, 61, 48, 48, 52, 51]⟩ : ByteArray), (⟨#[68, 61, 48, 48, 52, 52, 32, 69, 61, 48, 48, 52, 53, 32, 70, 61, 48, 48, 52, 54, 32, 71, 61, 48, 48, 52, 55, 32, 72, 61, 48, 48, 52, 56, 32, 73, 61, 48, 48, 52, 57]⟩ : ByteArray), (⟨#[74, 61, 48, 48, 52, 65, 32, 75, 61, 48, 48, 52, 66, 32, 76, 61, 48, 48, 52, 67, 32, 77, 61, 48, 48, 52, 68, 32, 78, 61, 48, 48, 52, 69, 32, 79, 61, 48, 48, 52, 70]⟩ : ByteArray), (⟨#[80, 61, 48, 48, 53, 48, 32, 81, 61, 48, 48, 53, 49, 32, 82, 61, 48, 48, 53, 50, 32, 83, 61, 48, 48, 53, 51, 32, 84, 61, 48, 48, 53, 52, 32, 85, 61, 48, 48, 53, 53]⟩ : ByteArray), (⟨#[86, 61, 48, 48, 53, 54, 32, 87, 61, 48, 48, 53, 55, 32, 88, 61, 48, 48, 53, 56, 32, 89, 61, 48, 48, 53, 57, 32, 90, 61, 48, 48, 53, 65, 32, 98, 114, 97, 99, 107, 101, 116, 108, 101, 102, 116, 61, 48, 48, 53, 66]⟩ : ByteArray), (⟨#[98, 97, 99, 107, 115, 108, 97, 115, 104, 61, 48, 48, 53, 67, 32, 98, 114, 97, 99, 107, 101, 116, 114, 105, 103, 104, 116, 61, 48, 48, 53, 68, 32, 97, 115, 99, 105, 105, 99, 105, 114, 99, 117, 109, 61, 48, 48, 53, 69, 32, 117, 110, 100, 101, 114, 115, 99, 111, 114, 101, 61, 48, 48, 53, 70, 32, 103, 114, 97, 118, 101, 61, 48, 48, 54, 48, 32, 97, 61, 48, 48, 54, 49]⟩ : ByteArray), (⟨#[98, 61, 48, 48, 54, 50, 32, 99, 61, 48, 48, 54, 51, 32, 100, 61, 48, 48, 54, 52, 32, 101, 61, 48, 48, 54, 53, 32, 102, 61, 48, 48, 54, 54, 32, 103, 61, 48, 48, 54, 55]⟩ : ByteArray), (⟨#[104, 61, 48, 48, 54, 56, 32, 105, 61, 48, 48, 54, 57, 32, 106, 61, 48, 48, 54, 65, 32, 107, 61, 48, 48, 54, 66, 32, 108, 61, 48, 48, 54, 67, 32, 109, 61, 48, 48, 54, 68]⟩ : ByteArray), (⟨#[110, 61, 48, 48, 54, 69, 32, 111, 61, 48, 48, 54, 70, 32, 112, 61, 48, 48, 55, 48, 32, 113, 61, 48, 48, 55, 49, 32, 114, 61, 48, 48, 55, 50, 32, 115, 61, 48, 48, 55, 51]⟩ : ByteArray), (⟨#[116, 61, 48, 48, 55, 52, 32, 117, 61, 48, 48, 55, 53, 32, 118, 61, 48, 48, 55, 54, 32, 119, 61, 48, 48, 55, 55, 32, 120, 61, 48, 48, 55, 56, 32, 121, 61, 48, 48, 55, 57]⟩ : ByteArray), (⟨#[122, 61, 48, 48, 55, 65, 32, 98, 114, 97, 99, 101, 108, 101, 102, 116, 61, 48, 48, 55, 66, 32, 98, 97, 114, 61, 48, 48, 55, 67, 32, 98, 114, 97, 99, 101, 114, 105, 103, 104, 116, 61, 48, 48, 55, 68, 32, 97, 115, 99, 105, 105, 116, 105, 108, 100, 101, 61, 48, 48, 55, 69, 32, 101, 120, 99, 108, 97, 109, 100, 111, 119, 110, 61, 48, 48, 65, 49]⟩ : ByteArray), (⟨#[99, 101, 110, 116, 61, 48, 48, 65, 50, 32, 115, 116, 101, 114, 108, 105, 110, 103, 61, 48, 48, 65, 51, 32, 99, 117, 114, 114, 101, 110, 99, 121, 61, 48, 48, 65, 52, 32, 121, 101, 110, 61, 48, 48, 65, 53, 32, 98, 114, 111, 107, 101, 110, 98, 97, 114, 61, 48, 48, 65, 54, 32, 115, 101, 99, 116, 105, 111, 110, 61, 48, 48, 65, 55]⟩ : ByteArray), (⟨#[100, 105, 101, 114, 101, 115, 105, 115, 61, 48, 48, 65, 56, 32, 99, 111, 112, 121, 114, 105, 103, 104, 116, 61, 48, 48, 65, 57, 32, 111, 114, 100, 102, 101, 109, 105, 110, 105, 110, 101, 61, 48, 48, 65, 65, 32, 103, 117, 105, 108, 108, 101, 109, 111, 116, 108, 101, 102, 116, 61, 48, 48, 65, 66, 32, 108, 111, 103, 105, 99, 97, 108, 110, 111, 116, 61, 48, 48, 65, 67, 32, 114, 101, 103, 105, 115, 116, 101, 114, 101, 100, 61, 48, 48, 65, 69]⟩ : ByteArray), (⟨#[109, 97, 99, 114, 111, 110, 61, 48, 48, 65, 70, 32, 100, 101, 103, 114, 101, 101, 61, 48, 48, 66, 48, 32, 112, 108, 117, 115, 109, 105, 110, 117, 115, 61, 48, 48, 66, 49, 32, 116, 119, 111, 115, 117, 112, 101, 114, 105, 111, 114, 61, 48, 48, 66, 50, 32, 116, 104, 114, 101, 101, 115, 117, 112, 101, 114, 105, 111, 114, 61, 48, 48, 66, 51, 32, 97, 99, 117, 116, 101, 61, 48, 48, 66, 52]⟩ : ByteArray), (⟨#[109, 117, 61, 48, 48, 66, 53, 32, 112, 97, 114, 97, 103, 114, 97, 112, 104, 61, 48, 48, 66, 54, 32, 112, 101, 114, 105, 111, 100, 99, 101, 110, 116, 101, 114, 101, 100, 61, 48, 48, 66, 55, 32, 99, 101, 100, 105, 108, 108, 97, 61, 48, 48, 66, 56, 32, 111, 110, 101, 115, 117, 112, 101, 114, 105, 111, 114, 61, 48, 48, 66, 57, 32, 111, 114, 100, 109, 97, 115, 99, 117, 108, 105, 110, 101, 61, 48, 48, 66, 65]⟩ : ByteArray), (⟨#[103, 117, 105, 108, 108, 101, 109, 111, 116, 114, 105, 103, 104, 116, 61, 48, 48, 66, 66, 32, 111, 110, 101, 113, 117, 97, 114, 116, 101, 114, 61, 48, 48, 66, 67, 32, 111, 110, 101, 104, 97, 108, 102, 61, 48, 48, 66, 68, 32, 116, 104, 114, 101, 101, 113, 117, 97, 114, 116, 101, 114, 115, 61, 48, 48, 66, 69, 32, 113, 117, 101, 115, 116, 105, 111, 110, 100, 111, 119, 110, 61, 48, 48, 66, 70, 32, 65, 103, 114, 97, 118, 101, 61, 48, 48, 67, 48]⟩ : ByteArray), (⟨#[65, 97, 99, 117, 116, 101, 61, 48, 48, 67, 49, 32, 65, 99, 105, 114, 99, 117, 109, 102, 108, 101, 120, 61, 48, 48, 67, 50, 32, 65, 116, 105, 108, 100, 101, 61, 48, 48, 67, 51, 32, 65, 100, 105, 101, 114, 101, 115, 105, 115, 61, 48, 48, 67, 52, 32, 65, 114, 105, 110, 103, 61, 48, 48, 67, 53, 32, 65, 69, 61, 48, 48, 67, 54]⟩ : ByteArray), (⟨#[67, 99, 101, 100, 105, 108, 108, 97, 61, 48, 48, 67, 55, 32, 69, 103, 114, 97, 118, 101, 61, 48, 48, 67, 56, 32, 69, 97, 99, 117, 116, 101, 61, 48, 48, 67, 57, 32, 69, 99, 105, 114, 99, 117, 109, 102, 108, 101, 120, 61, 48, 48, 67, 65, 32, 69, 100, 105, 101, 114, 101, 115, 105, 115, 61, 48, 48, 67, 66, 32, 73, 103, 114, 97, 118, 101, 61, 48, 48, 67, 67]⟩ : ByteArray), (⟨#[73, 97, 99, 117, 116, 101, 61, 48, 48, 67, 68, 32, 73, 99, 105, 114, 99, 117, 109, 102, 108, 101, 120, 61, 48, 48, 67, 69, 32, 73, 100, 105, 101, 114, 101, 115, 105, 115, 61, 48, 48, 67, 70, 32, 69, 116, 104, 61, 48, 48, 68, 48, 32, 78, 116, 105, 108, 100, 101, 61, 48, 48, 68, 49, 32, 79, 103, 114, 97, 118, 101, 61, 48, 48, 68, 50]⟩ : ByteArray), (⟨#[79, 97, 99, 117, 116, 101, 61, 48, 48, 68, 51, 32, 79, 99, 105, 114, 99, 117, 109, 102, 108, 101, 120, 61, 48, 48, 68, 52, 32, 79, 116, 105, 108, 100, 101, 61, 48, 48, 68, 53, 32, 79, 100, 105, 101, 114, 101, 115, 105, 115, 61, 48, 48, 68, 54, 32, 109, 117, 108, 116, 105, 112, 108, 121, 61, 48, 48, 68, 55, 32, 79, 115, 108, 97, 115, 104, 61, 48, 48, 68, 56]⟩ : ByteArray), (⟨#[85, 103, 114, 97, 118, 101, 61, 48, 48, 68, 57, 32, 85, 97, 99, 117, 116, 101, 61, 48, 48, 68, 65, 32, 85, 99, 105, 114, 99, 117, 109, 102, 108, 101, 120, 61, 48, 48, 68, 66, 32, 85, 100, 105, 101, 114, 101, 115, 105, 115, 61, 48, 48, 68, 67, 32, 89, 97, 99, 117, 116, 101, 61, 48, 48, 68, 68, 32, 84, 104, 111, 114, 110, 61, 48, 48, 68, 69]⟩ : ByteArray), (⟨#[103, 101, 114, 109, 97, 110, 100, 98, 108, 115, 61, 48, 48, 68, 70, 32, 97, 103, 114, 97, 118, 101, 61, 48, 48, 69, 48, 32, 97, 97, 99, 117, 116, 101, 61, 48, 48, 69, 49, 32, 97, 99, 105, 114, 99, 117, 109, 102, 108, 101, 120, 61, 48, 48, 69, 50, 32, 97, 116, 105, 108, 100, 101, 61, 48, 48, 69, 51, 32, 97, 100, 105, 101, 114, 101, 115, 105, 115, 61, 48, 48, 69, 52]⟩ : ByteArray), (⟨#[97, 114, 105, 110, 103, 61, 48, 48, 69, 53, 32, 97, 101, 61, 48, 48, 69, 54, 32, 99, 99, 101, 100, 105, 108, 108, 97, 61, 48, 48, 69, 55, 32, 101, 103, 114, 97, 118, 101, 61, 48, 48, 69, 56, 32, 101, 97, 99, 117, 116, 101, 61, 48, 48, 69, 57, 32, 101, 99, 105, 114, 99, 117, 109, 102, 108, 101, 120, 61, 48, 48, 69, 65]⟩ : ByteArray), (⟨#[101, 100, 105, 101, 114, 101, 115, 105, 115, 61, 48, 48, 69, 66, 32, 105, 103, 114, 97, 118, 101, 61, 48, 48, 69, 67, 32, 105, 97, 99, 117, 116, 101, 61, 48, 48, 69, 68, 32, 105, 99, 105, 114, 99, 117, 109, 102, 108, 101, 120, 61, 48, 48, 69, 69, 32, 105, 100, 105, 101, 114, 101, 115, 105, 115, 61, 48, 48, 69, 70, 32, 101, 116, 104, 61, 48, 48, 70, 48]⟩ : ByteArray), (⟨#[110, 116, 105, 108, 100, 101, 61, 48, 48, 70, 49, 32, 111, 103, 114, 97, 118, 101, 61, 48, 48, 70, 50, 32, 111, 97, 99, 117, 116, 101, 61, 48, 48, 70, 51, 32, 111, 99, 105, 114, 99, 117, 109, 102, 108, 101, 120, 61, 48, 48, 70, 52, 32, 111, 116, 105, 108, 100, 101, 61, 48, 48, 70, 53, 32, 111, 100, 105, 101, 114, 101, 115, 105, 115, 61, 48, 48, 70, 54]⟩ : ByteArray)] : List ByteArray))
set_option maxHeartbeats 8000000 in
set_option maxRecDepth 100000 in
theorem glyph_part1.calls  (r : List ByteArray) (w : World) (h : glyph_part1.f  = some r) :
    Calls Tryz.prog 124 #[] w fun e w' => ∃ v0_ : Value, e = .returned (v0_) ∧ Kd.R Kd.string 9 w' w.heap.size (fun _ => True) v0_ r ∧ Below w.heap.size w w' := by
  have HB := Aside0.mk (Below.refl w.heap.size w)
  have Ny133 := Aside0.mk (Option.some.inj (show some _ = some r from h)).symm
  clear h
  go_enter Tryz.func124, Tryz.ntmps124
  go_wp2_with (first | ((with_reducible refine gate_dst (N := 1) rfl ?_); refine Kd.R_lit Kd.string _ 9 ?hg (N := 1) ?hd (xs := r) (inner := [.string (⟨#[115, 112, 97, 99, 101, 61, 48, 48, 50, 48, 32, 101, 120, 99, 108, 97, 109, 61, 48, 48, 50, 49, 32, 113, 117, 111, 116, 101, 100, 98, 108, 61, 48, 48, 50, 50, 32, 110, 117, 109, 98, 101, 114, 115, 105, 103, 110, 61, 48, 48, 50, 51, 32, 100, 111, 108, 108, 97, 114, 61, 48, 48, 50, 52, 32, 112, 101, 114, 99, 101, 110, 116, 61, 48, 48, 50, 53]⟩ : ByteArray), .string (⟨#[97, 109, 112, 101, 114, 115, 97, 110, 100, 61, 48, 48, 50, 54, 32, 113, 117, 111, 116, 101, 115, 105, 110, 103, 108, 101, 61, 48, 48, 50, 55, 32, 112, 97, 114, 101, 110, 108, 101, 102, 116, 61, 48, 48, 50, 56, 32, 112, 97, 114, 101, 110, 114, 105, 103, 104, 116, 61, 48, 48, 50, 57, 32, 97, 115, 116, 101, 114, 105, 115, 107, 61, 48, 48, 50, 65, 32, 112, 108, 117, 115, 61, 48, 48, 50, 66]⟩ : ByteArray), .string (⟨#[99, 111, 109, 109, 97, 61, 48, 48, 50, 67, 32, 104, 121, 112, 104, 101, 110, 61, 48, 48, 50, 68, 32, 112, 101, 114, 105, 111, 100, 61, 48, 48, 50, 69, 32, 115, 108, 97, 115, 104, 61, 48, 48, 50, 70, 32, 122, 101, 114, 111, 61, 48, 48, 51, 48, 32, 111, 110, 101, 61, 48, 48, 51, 49]⟩ : ByteArray), .string (⟨#[116, 119, 111, 61, 48, 48, 51, 50, 32, 116, 104, 114, 101, 101, 61, 48, 48, 51, 51, 32, 102, 111, 117, 114, 61, 48, 48, 51, 52, 32, 102, 105, 118, 101, 61, 48, 48, 51, 53, 32, 115, 105, 120, 61, 48, 48, 51, 54, 32, 115, 101, 118, 101, 110, 61, 48, 48, 51, 55]⟩ : ByteArray), .string (⟨#[101, 105, 103, 104, 116, 61, 48, 48, 51, 56, 32, 110, 105, 110, 101, 61, 48, 48, 51, 57, 32, 99, 111, 108, 111, 110, 61, 48, 48, 51, 65, 32, 115, 101, 109, 105, 99, 111, 108, 111, 110, 61, 48, 48, 51, 66, 32, 108, 101, 115, 115, 61, 48, 48, 51, 67, 32, 101, 113, 117, 97, 108, 61, 48, 48, 51, 68]⟩ : ByteArray), .string (⟨#[103, 114, 101, 97, 116, 101, 114, 61, 48, 48, 51, 69, 32, 113, 117, 101, 115, 116, 105, 111, 110, 61, 48, 48, 51, 70, 32, 97, 116, 61, 48, 48, 52, 48, 32, 65, 61, 48, 48, 52, 49, 32, 66, 61, 48, 48, 52, 50, 32, 67, 61, 48, 48, 52, 51]⟩ : ByteArray), .string (⟨#[68, 61, 48, 48, 52, 52, 32, 69, 61, 48, 48, 52, 53, 32, 70, 61, 48, 48, 52, 54, 32, 71, 61, 48, 48, 52, 55, 32, 72, 61, 48, 48, 52, 56, 32, 73, 61, 48, 48, 52, 57]⟩ : ByteArray), .string (⟨#[74, 61, 48, 48, 52, 65, 32, 75, 61, 48, 48, 52, 66, 32, 76, 61, 48, 48, 52, 67, 32, 77, 61, 48, 48, 52, 68, 32, 78, 61, 48, 48, 52, 69, 32, 79, 61, 48, 48, 52, 70]⟩ : ByteArray), .string (⟨#[80, 61, 48, 48, 53, 48, 32, 81, 61, 48, 48, 53, 49, 32, 82, 61, 48, 48, 53, 50, 32, 83, 61, 48, 48, 53, 51, 32, 84, 61, 48, 48, 53, 52, 32, 85, 61, 48, 48, 53, 53]⟩ : ByteArray), .string (⟨#[86, 61, 48, 48, 53, 54, 32, 87, 61, 48, 48, 53, 55, 32, 88, 61, 48, 48, 53, 56, 32, 89, 61, 48, 48, 53, 57, 32, 90, 61, 48, 48, 53, 65, 32, 98, 114, 97, 99, 107, 101, 116, 108, 101, 102, 116, 61, 48, 48, 53, 66]⟩ : ByteArray), .string (⟨#[98, 97, 99, 107, 115, 108, 97, 115, 104, 61, 48, 48, 53, 67, 32, 98, 114, 97, 99, 107, 101, 116, 114, 105, 103, 104, 116, 61, 48, 48, 53, 68, 32, 97, 115, 99, 105, 105, 99, 105, 114, 99, 117, 109, 61, 48, 48, 53, 69, 32, 117, 110, 100, 101, 114, 115, 99, 111, 114, 101, 61, 48, 48, 53, 70, 32, 103, 114, 97, 118, 101, 61, 48, 48, 54, 48, 32, 97, 61, 48, 48, 54, 49]⟩ : ByteArray), .string (⟨#[98, 61, 48, 48, 54, 50, 32, 99, 61, 48, 48, 54, 51, 32, 100, 61, 48, 48, 54, 52, 32, 101, 61, 48, 48, 54, 53, 32, 102, 61, 48, 48, 54, 54, 32, 103, 61, 48, 48, 54, 55]⟩ : ByteArray), .string (⟨#[104, 61, 48, 48, 54, 56, 32, 105, 61, 48, 48, 54, 57, 32, 106, 61, 48, 48, 54, 65, 32, 107, 61, 48, 48, 54, 66, 32, 108, 61, 48, 48, 54, 67, 32, 109, 61, 48, 48, 54, 68]⟩ : ByteArray), .string (⟨#[110, 61, 48, 48, 54, 69, 32, 111, 61, 48, 48, 54, 70, 32, 112, 61, 48, 48, 55, 48, 32, 113, 61, 48, 48, 55, 49, 32, 114, 61, 48, 48, 55, 50, 32, 115, 61, 48, 48, 55, 51]⟩ : ByteArray), .string (⟨#[116, 61, 48, 48, 55, 52, 32, 117, 61, 48, 48, 55, 53, 32, 118, 61, 48, 48, 55, 54, 32, 119, 61, 48, 48, 55, 55, 32, 120, 61, 48, 48, 55, 56, 32, 121, 61, 48, 48, 55, 57]⟩ : ByteArray), .string (⟨#[122, 61, 48, 48, 55, 65, 32, 98, 114, 97, 99, 101, 108, 101, 102, 116, 61, 48, 48, 55, 66, 32, 98, 97, 114, 61, 48, 48, 55, 67, 32, 98, 114, 97, 99, 101, 114, 105, 103, 104, 116, 61, 48, 48, 55, 68, 32, 97, 115, 99, 105, 105, 116, 105, 108, 100, 101, 61, 48, 48, 55, 69, 32, 101, 120, 99, 108, 97, 109, 100, 111, 119, 110, 61, 48, 48, 65, 49]⟩ : ByteArray), .string (⟨#[99, 101, 110, 116, 61, 48, 48, 65, 50, 32, 115, 116, 101, 114, 108, 105, 110, 103, 61, 48, 48, 65, 51, 32, 99, 117, 114, 114, 101, 110, 99, 121, 61, 48, 48, 65, 52, 32, 121, 101, 110, 61, 48, 48, 65, 53, 32, 98, 114, 111, 107, 101, 110, 98, 97, 114, 61, 48, 48, 65, 54, 32, 115, 101, 99, 116, 105, 111, 110, 61, 48, 48, 65, 55]⟩ : ByteArray), .string (⟨#[100, 105, 101, 114, 101, 115, 105, 115, 61, 48, 48, 65, 56, 32, 99, 111, 112, 121, 114, 105, 103, 104, 116, 61, 48, 48, 65, 57, 32, 111, 114, 100, 102, 101, 109, 105, 110, 105, 110, 101, 61, 48, 48, 65, 65, 32, 103, 117, 105, 108, 108, 101, 109, 111, 116, 108, 101, 102, 116, 61, 48, 48, 65, 66, 32, 108, 111, 103, 105, 99, 97, 108, 110, 111, 116, 61, 48, 48, 65, 67, 32, 114, 101, 103, 105, 115, 116, 101, 114, 101, 100, 61, 48, 48, 65, 69]⟩ : ByteArray), .string (⟨#[109, 97, 99, 114, 111, 110, 61, 48, 48, 65, 70, 32, 100, 101, 103, 114, 101, 101, 61, 48, 48, 66, 48, 32, 112, 108, 117, 115, 109, 105, 110, 117, 115, 61, 48, 48, 66, 49, 32, 116, 119, 111, 115, 117, 112, 101, 114, 105, 111, 114, 61, 48, 48, 66, 50, 32, 116, 104, 114, 101, 101, 115, 117, 112, 101, 114, 105, 111, 114, 61, 48, 48, 66, 51, 32, 97, 99, 117, 116, 101, 61, 48, 48, 66, 52]⟩ : ByteArray), .string (⟨#[109, 117, 61, 48, 48, 66, 53, 32, 112, 97, 114, 97, 103, 114, 97, 112, 104, 61, 48, 48, 66, 54, 32, 112, 101, 114, 105, 111, 100, 99, 101, 110, 116, 101, 114, 101, 100, 61, 48, 48, 66, 55, 32, 99, 101, 100, 105, 108, 108, 97, 61, 48, 48, 66, 56, 32, 111, 110, 101, 115, 117, 112, 101, 114, 105, 111, 114, 61, 48, 48, 66, 57, 32, 111, 114, 100, 109, 97, 115, 99, 117, 108, 105, 110, 101, 61, 48, 48, 66, 65]⟩ : ByteArray), .string (⟨#[103, 117, 105, 108, 108, 101, 109, 111, 116, 114, 105, 103, 104, 116, 61, 48, 48, 66, 66, 32, 111, 110, 101, 113, 117, 97, 114, 116, 101, 114, 61, 48, 48, 66, 67, 32, 111, 110, 101, 104, 97, 108, 102, 61, 48, 48, 66, 68, 32, 116, 104, 114, 101, 101, 113, 117, 97, 114, 116, 101, 114, 115, 61, 48, 48, 66, 69, 32, 113, 117, 101, 115, 116, 105, 111, 110, 100, 111, 119, 110, 61, 48, 48, 66, 70, 32, 65, 103, 114, 97, 118, 101, 61, 48, 48, 67, 48]⟩ : ByteArray), .string (⟨#[65, 97, 99, 117, 116, 101, 61, 48, 48, 67, 49, 32, 65, 99, 105, 114, 99, 117, 109, 102, 108, 101, 120, 61, 48, 48, 67, 50, 32, 65, 116, 105, 108, 100, 101, 61, 48, 48, 67, 51, 32, 65, 100, 105, 101, 114, 101, 115, 105, 115, 61, 48, 48, 67, 52, 32, 65, 114, 105, 110, 103, 61, 48, 48, 67, 53, 32, 65, 69, 61, 48, 48, 67, 54]⟩ : ByteArray), .string (⟨#[67, 99, 101, 100, 105, 108, 108, 97, 61, 48, 48, 67, 55, 32, 69, 103, 114, 97, 118, 101, 61, 48, 48, 67, 56, 32, 69, 97, 99, 117, 116, 101, 61, 48, 48, 67, 57, 32, 69, 99, 105, 114, 99, 117, 109, 102, 108, 101, 120, 61, 48, 48, 67, 65, 32, 69, 100, 105, 101, 114, 101, 115, 105, 115, 61, 48, 48, 67, 66, 32, 73, 103, 114, 97, 118, 101, 61, 48, 48, 67, 67]⟩ : ByteArray), .string (⟨#[73, 97, 99, 117, 116, 101, 61, 48, 48, 67, 68, 32, 73, 99, 105, 114, 99, 117, 109, 102, 108, 101, 120, 61, 48, 48, 67, 69, 32, 73, 100, 105, 101, 114, 101, 115, 105, 115, 61, 48, 48, 67, 70, 32, 69, 116, 104, 61, 48, 48, 68, 48, 32, 78, 116, 105, 108, 100, 101, 61, 48, 48, 68, 49, 32, 79, 103, 114, 97, 118, 101, 61, 48, 48, 68, 50]⟩ : ByteArray), .string (⟨#[79, 97, 99, 117, 116, 101, 61, 48, 48, 68, 51, 32, 79, 99, 105, 114, 99, 117, 109, 102, 108, 101, 120, 61, 48, 48, 68, 52, 32, 79, 116, 105, 108, 100, 101, 61, 48, 48, 68, 53, 32, 79, 100, 105, 101, 114, 101, 115, 105, 115, 61, 48, 48, 68, 54, 32, 109, 117, 108, 116, 105, 112, 108, 121, 61, 48, 48, 68, 55, 32, 79, 115, 108, 97, 115, 104, 61, 48, 48, 68, 56]⟩ : ByteArray), .string (⟨#[85, 103, 114, 97, 118, 101, 61, 48, 48, 68, 57, 32, 85, 97, 99, 117, 116, 101, 61, 48, 48, 68, 65, 32, 85, 99, 105, 114, 99, 117, 109, 102, 108, 101, 120, 61, 48, 48, 68, 66, 32, 85, 100, 105, 101, 114, 101, 115, 105, 115, 61, 48, 48, 68, 67, 32, 89, 97, 99, 117, 116, 101, 61, 48, 48, 68, 68, 32, 84, 104, 111, 114, 110, 61, 48, 48, 68, 69]⟩ : ByteArray), .string (⟨#[103, 101, 114, 109, 97, 110, 100, 98, 108, 115, 61, 48, 48, 68, 70, 32, 97, 103, 114, 97, 118, 101, 61, 48, 48, 69, 48, 32, 97, 97, 99, 117, 116, 101, 61, 48, 48, 69, 49, 32, 97, 99, 105, 114, 99, 117, 109, 102, 108, 101, 120, 61, 48, 48, 69, 50, 32, 97, 116, 105, 108, 100, 101, 61, 48, 48, 69, 51, 32, 97, 100, 105, 101, 114, 101, 115, 105, 115, 61, 48, 48, 69, 52]⟩ : ByteArray), .string (⟨#[97, 114, 105, 110, 103, 61, 48, 48, 69, 53, 32, 97, 101, 61, 48, 48, 69, 54, 32, 99, 99, 101, 100, 105, 108, 108, 97, 61, 48, 48, 69, 55, 32, 101, 103, 114, 97, 118, 101, 61, 48, 48, 69, 56, 32, 101, 97, 99, 117, 116, 101, 61, 48, 48, 69, 57, 32, 101, 99, 105, 114, 99, 117, 109, 102, 108, 101, 120, 61, 48, 48, 69, 65]⟩ : ByteArray), .string (⟨#[101, 100, 105, 101, 114, 101, 115, 105, 115, 61, 48, 48, 69, 66, 32, 105, 103, 114, 97, 118, 101, 61, 48, 48, 69, 67, 32, 105, 97, 99, 117, 116, 101, 61, 48, 48, 69, 68, 32, 105, 99, 105, 114, 99, 117, 109, 102, 108, 101, 120, 61, 48, 48, 69, 69, 32, 105, 100, 105, 101, 114, 101, 115, 105, 115, 61, 48, 48, 69, 70, 32, 101, 116, 104, 61, 48, 48, 70, 48]⟩ : ByteArray), .string (⟨#[110, 116, 105, 108, 100, 101, 61, 48, 48, 70, 49, 32, 111, 103, 114, 97, 118, 101, 61, 48, 48, 70, 50, 32, 111, 97, 99, 117, 116, 101, 61, 48, 48, 70, 51, 32, 111, 99, 105, 114, 99, 117, 109, 102, 108, 101, 120, 61, 48, 48, 70, 52, 32, 111, 116, 105, 108, 100, 101, 61, 48, 48, 70, 53, 32, 111, 100, 105, 101, 114, 101, 115, 105, 115, 61, 48, 48, 70, 54]⟩ : ByteArray)]) (ok := fun _ => True) (okp := fun _ => True) ?hr ?hp (fun _ hk => hk) trivial (Below.refl _ _) (Nat.le_refl _) (by rw [Ny133.out]; simp) ?_; (case hd => rfl); (case hg => rfl); (case hr => rw [Ny133.out]; first | (go_simp; done) | (go_simp; rfl)); (case hp => rw [Ny133.out]; exact (Reps.one rfl (Reps.one rfl (Reps.one rfl (Reps.one rfl (Reps.one rfl (Reps.one rfl (Reps.one rfl (Reps.one rfl (Reps.one rfl (Reps.one rfl (Reps.one rfl (Reps.one rfl (Reps.one rfl (Reps.one rfl (Reps.one rfl (Reps.one rfl (Reps.one rfl (Reps.one rfl (Reps.one rfl (Reps.one rfl (Reps.one rfl (Reps.one rfl (Reps.one rfl (Reps.one rfl (Reps.one rfl (Reps.one rfl (Reps.one rfl (Reps.one rfl (Reps.one rfl (Reps.one rfl (Reps.none _ _)))))))))))))))))))))))))))))))); intro v134 w1 ho2 hb hg_ hnew_; clear hg_ hnew_; have n0_ := Aside0.mk (Kd.R_lower ho2 (below_size (by repeat (first | (with_reducible first | exact HB.out | apply below_alloc | apply pw_below_drewN | apply below_drew1) | exact HB.out)))); have n1_ := Aside0.mk (below_step (by repeat (first | (with_reducible first | exact HB.out | apply below_alloc | apply pw_below_drewN | apply below_drew1) | exact HB.out)) hb); clear HB; have HO135 := n0_; have HB := n1_; clear n0_ n1_; clear hb ho2))
  go_ret
  exact ⟨_, by first | rfl | (simp [errW_none, errW_some] <;> rfl) | (simp [*, errW_none, errW_some] <;> rfl), by (with_reducible repeat (first | apply Kd.R_alloc | apply Kd.R_drewN | apply Kd.R_drew)); exact HO135.out, by repeat (first | (with_reducible first | exact HB.out | apply below_alloc | apply pw_below_drewN | apply below_drew1) | exact HB.out)⟩
end Go.Proofs.YtdcldaknmenklaaGreatDoor.M
end
section
/- Laid by this session's program hbprint.py out of the translation: the function hornbook/glyph.part2 and its contract. -/
namespace Go.Proofs.YtdcldaknmenklaaGreatDoor.M
open Go.RowKit Go.Proofs.YtdcldaknmenklaaGreatDoorW.PrintWords Go.Proofs.YtdcldaknmenklaaGreatDoorW.PrintLast Go.Proofs.YtdcldaknmenklaaGreatDoorW.PrintMore
attribute [local go_sem] max2_int min2_int max_two min_two max_three min_three max_four min_four
set_option linter.unusedVariables false
set_option linter.unusedSimpArgs false
def glyph_part2.f  : Option (List ByteArray) := some (([(⟨#[100, 105, 118, 105, 100, 101, 61, 48, 48, 70, 55, 32, 111, 115, 108, 97, 115, 104, 61, 48, 48, 70, 56, 32, 117, 103, 114, 97, 118, 101, 61, 48, 48, 70, 57, 32, 117, 97, 99, 117, 116, 101, 61, 48, 48, 70, 65, 32, 117, 99, 105, 114, 99, 117, 109, 102, 108, 101, 120, 61, 48, 48, 70, 66, 32, 117, 100, 105, 101, 114, 101, 115, 105, 115, 61, 48, 48, 70, 67]⟩ : ByteArray), (⟨#[121, 97, 99, 117, 116, 101, 61, 48, 48, 70, 68, 32, 116, 104, 111, 114, 110, 61, 48, 48, 70, 69, 32, 121, 100, 105, 101, 114, 101, 115, 105, 115, 61, 48, 48, 70, 70, 32, 69, 117, 114, 111, 61, 50, 48, 65, 67, 32, 113, 117, 111, 116, 101, 115, 105, 110, 103, 108, 98, 97, 115, 101, 61, 50, 48, 49, 65, 32, 102, 108, 111, 114, 105, 110, 61, 48, 49, 57, 50]⟩ : ByteArray), (⟨#[113, 117, 111, 116, 101, 100, 98, 108, 98, 97, 115, 101, 61, 50, 48, 49, 69, 32, 101, 108, 108, 105, 112, 115, 105, 115, 61, 50, 48, 50, 54, 32, 100, 97, 103, 103, 101, 114, 61, 50, 48, 50, 48, 32, 100, 97, 103, 103, 101, 114, 100, 98, 108, 61, 50, 48, 50, 49, 32, 99, 105, 114, 99, 117, 109, 102, 108, 101, 120, 61, 48, 50, 67, 54, 32, 112, 101, 114, 116, 104, 111, 117, 115, 97, 110, 100, 61, 50, 48, 51, 48]⟩ : ByteArray), (⟨#[83, 99, 97, 114, 111, 110, 61, 48, 49, 54, 48, 32, 103, 117, 105, 108, 115, 105, 110, 103, 108, 108, 101, 102, 116, 61, 50, 48, 51, 57, 32, 79, 69, 61, 48, 49, 53, 50, 32, 90, 99, 97, 114, 111, 110, 61, 48, 49, 55, 68, 32, 113, 117, 111, 116, 101, 108, 101, 102, 116, 61, 50, 48, 49, 56, 32, 113, 117, 111, 116, 101, 114, 105, 103, 104, 116, 61, 50, 48, 49, 57]⟩ : ByteArray), (⟨#[113, 117, 111, 116, 101, 100, 98, 108, 108, 101, 102, 116, 61, 50, 48, 49, 67, 32, 113, 117, 111, 116, 101, 100, 98, 108, 114, 105, 103, 104, 116, 61, 50, 48, 49, 68, 32, 98, 117, 108, 108, 101, 116, 61, 50, 48, 50, 50, 32, 101, 110, 100, 97, 115, 104, 61, 50, 48, 49, 51, 32, 101, 109, 100, 97, 115, 104, 61, 50, 48, 49, 52, 32, 116, 105, 108, 100, 101, 61, 48, 50, 68, 67]⟩ : ByteArray), (⟨#[116, 114, 97, 100, 101, 109, 97, 114, 107, 61, 50, 49, 50, 50, 32, 115, 99, 97, 114, 111, 110, 61, 48, 49, 54, 49, 32, 103, 117, 105, 108, 115, 105, 110, 103, 108, 114, 105, 103, 104, 116, 61, 50, 48, 51, 65, 32, 111, 101, 61, 48, 49, 53, 51, 32, 122, 99, 97, 114, 111, 110, 61, 48, 49, 55, 69, 32, 89, 100, 105, 101, 114, 101, 115, 105, 115, 61, 48, 49, 55, 56]⟩ : ByteArray), (⟨#[102, 105, 61, 70, 66, 48, 49, 32, 102, 108, 61, 70, 66, 48, 50, 32, 102, 114, 97, 99, 116, 105, 111, 110, 61, 50, 48, 52, 52, 32, 100, 111, 116, 108, 101, 115, 115, 105, 61, 48, 49, 51, 49, 32, 76, 115, 108, 97, 115, 104, 61, 48, 49, 52, 49, 32, 108, 115, 108, 97, 115, 104, 61, 48, 49, 52, 50]⟩ : ByteArray), (⟨#[98, 114, 101, 118, 101, 61, 48, 50, 68, 56, 32, 99, 97, 114, 111, 110, 61, 48, 50, 67, 55, 32, 100, 111, 116, 97, 99, 99, 101, 110, 116, 61, 48, 50, 68, 57, 32, 104, 117, 110, 103, 97, 114, 117, 109, 108, 97, 117, 116, 61, 48, 50, 68, 68, 32, 111, 103, 111, 110, 101, 107, 61, 48, 50, 68, 66, 32, 114, 105, 110, 103, 61, 48, 50, 68, 65]⟩ : ByteArray), (⟨#[109, 105, 110, 117, 115, 61, 50, 50, 49, 50, 32, 110, 111, 116, 101, 113, 117, 97, 108, 61, 50, 50, 54, 48, 32, 105, 110, 102, 105, 110, 105, 116, 121, 61, 50, 50, 49, 69, 32, 108, 101, 115, 115, 101, 113, 117, 97, 108, 61, 50, 50, 54, 52, 32, 103, 114, 101, 97, 116, 101, 114, 101, 113, 117, 97, 108, 61, 50, 50, 54, 53, 32, 112, 97, 114, 116, 105, 97, 108, 100, 105, 102, 102, 61, 50, 50, 48, 50]⟩ : ByteArray), (⟨#[115, 117, 109, 109, 97, 116, 105, 111, 110, 61, 50, 50, 49, 49, 32, 112, 114, 111, 100, 117, 99, 116, 61, 50, 50, 48, 70, 32, 112, 105, 61, 48, 51, 67, 48, 32, 105, 110, 116, 101, 103, 114, 97, 108, 61, 50, 50, 50, 66, 32, 79, 109, 101, 103, 97, 61, 50, 49, 50, 54, 32, 114, 97, 100, 105, 99, 97, 108, 61, 50, 50, 49, 65]⟩ : ByteArray), (⟨#[97, 112, 112, 114, 111, 120, 101, 113, 117, 97, 108, 61, 50, 50, 52, 56, 32, 68, 101, 108, 116, 97, 61, 50, 50, 48, 54, 32, 108, 111, 122, 101, 110, 103, 101, 61, 50, 53, 67, 65, 32, 97, 112, 112, 108, 101, 61, 70, 56, 70, 70, 32, 65, 108, 112, 104, 97, 61, 48, 51, 57, 49, 32, 66, 101, 116, 97, 61, 48, 51, 57, 50]⟩ : ByteArray), (⟨#[71, 97, 109, 109, 97, 61, 48, 51, 57, 51, 32, 69, 112, 115, 105, 108, 111, 110, 61, 48, 51, 57, 53, 32, 90, 101, 116, 97, 61, 48, 51, 57, 54, 32, 69, 116, 97, 61, 48, 51, 57, 55, 32, 84, 104, 101, 116, 97, 61, 48, 51, 57, 56, 32, 73, 111, 116, 97, 61, 48, 51, 57, 57]⟩ : ByteArray), (⟨#[75, 97, 112, 112, 97, 61, 48, 51, 57, 65, 32, 76, 97, 109, 98, 100, 97, 61, 48, 51, 57, 66, 32, 77, 117, 61, 48, 51, 57, 67, 32, 78, 117, 61, 48, 51, 57, 68, 32, 88, 105, 61, 48, 51, 57, 69, 32, 79, 109, 105, 99, 114, 111, 110, 61, 48, 51, 57, 70]⟩ : ByteArray), (⟨#[80, 105, 61, 48, 51, 65, 48, 32, 82, 104, 111, 61, 48, 51, 65, 49, 32, 83, 105, 103, 109, 97, 61, 48, 51, 65, 51, 32, 84, 97, 117, 61, 48, 51, 65, 52, 32, 85, 112, 115, 105, 108, 111, 110, 61, 48, 51, 65, 53, 32, 80, 104, 105, 61, 48, 51, 65, 54]⟩ : ByteArray), (⟨#[67, 104, 105, 61, 48, 51, 65, 55, 32, 80, 115, 105, 61, 48, 51, 65, 56, 32, 97, 108, 112, 104, 97, 61, 48, 51, 66, 49, 32, 98, 101, 116, 97, 61, 48, 51, 66, 50, 32, 103, 97, 109, 109, 97, 61, 48, 51, 66, 51, 32, 100, 101, 108, 116, 97, 61, 48, 51, 66, 52]⟩ : ByteArray), (⟨#[101, 112, 115, 105, 108, 111, 110, 61, 48, 51, 66, 53, 32, 122, 101, 116, 97, 61, 48, 51, 66, 54, 32, 101, 116, 97, 61, 48, 51, 66, 55, 32, 116, 104, 101, 116, 97, 61, 48, 51, 66, 56, 32, 105, 111, 116, 97, 61, 48, 51, 66, 57, 32, 107, 97, 112, 112, 97, 61, 48, 51, 66, 65]⟩ : ByteArray), (⟨#[108, 97, 109, 98, 100, 97, 61, 48, 51, 66, 66, 32, 110, 117, 61, 48, 51, 66, 68, 32, 120, 105, 61, 48, 51, 66, 69, 32, 111, 109, 105, 99, 114, 111, 110, 61, 48, 51, 66, 70, 32, 114, 104, 111, 61, 48, 51, 67, 49, 32, 115, 105, 103, 109, 97, 49, 61, 48, 51, 67, 50]⟩ : ByteArray), (⟨#[115, 105, 103, 109, 97, 61, 48, 51, 67, 51, 32, 116, 97, 117, 61, 48, 51, 67, 52, 32, 117, 112, 115, 105, 108, 111, 110, 61, 48, 51, 67, 53, 32, 112, 104, 105, 61, 48, 51, 67, 54, 32, 99, 104, 105, 61, 48, 51, 67, 55, 32, 112, 115, 105, 61, 48, 51, 67, 56]⟩ : ByteArray), (⟨#[111, 109, 101, 103, 97, 61, 48, 51, 67, 57, 32, 116, 104, 101, 116, 97, 49, 61, 48, 51, 68, 49, 32, 85, 112, 115, 105, 108, 111, 110, 49, 61, 48, 51, 68, 50, 32, 112, 104, 105, 49, 61, 48, 51, 68, 53, 32, 111, 109, 101, 103, 97, 49, 61, 48, 51, 68, 54, 32, 117, 110, 105, 118, 101, 114, 115, 97, 108, 61, 50, 50, 48, 48]⟩ : ByteArray), (⟨#[101, 120, 105, 115, 116, 101, 110, 116, 105, 97, 108, 61, 50, 50, 48, 51, 32, 115, 117, 99, 104, 116, 104, 97, 116, 61, 50, 50, 48, 66, 32, 97, 115, 116, 101, 114, 105, 115, 107, 109, 97, 116, 104, 61, 50, 50, 49, 55, 32, 99, 111, 110, 103, 114, 117, 101, 110, 116, 61, 50, 50, 52, 53, 32, 116, 104, 101, 114, 101, 102, 111, 114, 101, 61, 50, 50, 51, 52, 32, 112, 101, 114, 112, 101, 110, 100, 105, 99, 117, 108, 97, 114, 61, 50, 50, 65, 53]⟩ : ByteArray), (⟨#[115, 105, 109, 105, 108, 97, 114, 61, 50, 50, 51, 67, 32, 109, 105, 110, 117, 116, 101, 61, 50, 48, 51, 50, 32, 99, 108, 117, 98, 61, 50, 54, 54, 51, 32, 100, 105, 97, 109, 111, 110, 100, 61, 50, 54, 54, 54, 32, 104, 101, 97, 114, 116, 61, 50, 54, 54, 53, 32, 115, 112, 97, 100, 101, 61, 50, 54, 54, 48]⟩ : ByteArray), (⟨#[97, 114, 114, 111, 119, 98, 111, 116, 104, 61, 50, 49, 57, 52, 32, 97, 114, 114, 111, 119, 108, 101, 102, 116, 61, 50, 49, 57, 48, 32, 97, 114, 114, 111, 119, 117, 112, 61, 50, 49, 57, 49, 32, 97, 114, 114, 111, 119, 114, 105, 103, 104, 116, 61, 50, 49, 57, 50, 32, 97, 114, 114, 111, 119, 100, 111, 119, 110, 61, 50, 49, 57, 51, 32, 115, 101, 99, 111, 110, 100, 61, 50, 48, 51, 51]⟩ : ByteArray), (⟨#[112, 114, 111, 112, 111, 114, 116, 105, 111, 110, 97, 108, 61, 50, 50, 49, 68, 32, 101, 113, 117, 105, 118, 97, 108, 101, 110, 99, 101, 61, 50, 50, 54, 49, 32, 97, 108, 101, 112, 104, 61, 50, 49, 51, 53, 32, 73, 102, 114, 97, 107, 116, 117, 114, 61, 50, 49, 49, 49, 32, 82, 102, 114, 97, 107, 116, 117, 114, 61, 50, 49, 49, 67, 32, 119, 101, 105, 101, 114, 115, 116, 114, 97, 115, 115, 61, 50, 49, 49, 56]⟩ : ByteArray), (⟨#[99, 105, 114, 99, 108, 101, 109, 117, 108, 116, 105, 112, 108, 121, 61, 50, 50, 57, 55, 32, 99, 105, 114, 99, 108, 101, 112, 108, 117, 115, 61, 50, 50, 57, 53, 32, 101, 109, 112, 116, 121, 115, 101, 116, 61, 50, 50, 48, 53, 32, 105, 110, 116, 101, 114, 115, 101, 99, 116, 105, 111, 110, 61, 50, 50, 50, 57, 32, 117, 110, 105, 111, 110, 61, 50, 50, 50, 65, 32, 112, 114, 111, 112, 101, 114, 115, 117, 112, 101, 114, 115, 101, 116, 61, 50, 50, 56, 51]⟩ : ByteArray), (⟨#[114, 101, 102, 108, 101, 120, 115, 117, 112, 101, 114, 115, 101, 116, 61, 50, 50, 56, 55, 32, 110, 111, 116, 115, 117, 98, 115, 101, 116, 61, 50, 50, 56, 52, 32, 112, 114, 111, 112, 101, 114, 115, 117, 98, 115, 101, 116, 61, 50, 50, 56, 50, 32, 114, 101, 102, 108, 101, 120, 115, 117, 98, 115, 101, 116, 61, 50, 50, 56, 54, 32, 101, 108, 101, 109, 101, 110, 116, 61, 50, 50, 48, 56, 32, 110, 111, 116, 101, 108, 101, 109, 101, 110, 116, 61, 50, 50, 48, 57]⟩ : ByteArray), (⟨#[97, 110, 103, 108, 101, 61, 50, 50, 50, 48, 32, 103, 114, 97, 100, 105, 101, 110, 116, 61, 50, 50, 48, 55, 32, 100, 111, 116, 109, 97, 116, 104, 61, 50, 50, 67, 53, 32, 108, 111, 103, 105, 99, 97, 108, 97, 110, 100, 61, 50, 50, 50, 55, 32, 108, 111, 103, 105, 99, 97, 108, 111, 114, 61, 50, 50, 50, 56, 32, 97, 114, 114, 111, 119, 100, 98, 108, 98, 111, 116, 104, 61, 50, 49, 68, 52]⟩ : ByteArray), (⟨#[97, 114, 114, 111, 119, 100, 98, 108, 108, 101, 102, 116, 61, 50, 49, 68, 48, 32, 97, 114, 114, 111, 119, 100, 98, 108, 117, 112, 61, 50, 49, 68, 49, 32, 97, 114, 114, 111, 119, 100, 98, 108, 114, 105, 103, 104, 116, 61, 50, 49, 68, 50, 32, 97, 114, 114, 111, 119, 100, 98, 108, 100, 111, 119, 110, 61, 50, 49, 68, 51, 32, 97, 110, 103, 108, 101, 108, 101, 102, 116, 61, 50, 51, 50, 57, 32, 97, 110, 103, 108, 101, 114, 105, 103, 104, 116, 61, 50, 51, 50, 65]⟩ : ByteArray), (⟨#[100, 97, 108, 101, 116, 104, 97, 116, 97, 102, 112, 97, 116, 97, 104, 61, 48, 53, 68, 51, 44, 48, 53, 66, 50, 32, 102, 102, 61, 70, 66, 48, 48, 32, 102, 102, 105, 61, 70, 66, 48, 51, 32, 102, 102, 108, 61, 70, 66, 48, 52, 32, 65, 109, 97, 99, 114, 111, 110, 61, 48, 49, 48, 48, 32, 97, 109, 97, 99, 114, 111, 110, 61, 48, 49, 48, 49]⟩ : ByteArray), (⟨#[65, 98, 114, 101, 118, 101, 61, 48, 49, 48, 50, 32, 97, 98, 114, 101, 118, 101, 61, 48, 49, 48, 51, 32, 76, 99, 111, 109, 109, 97, 97, 99, 99, 101, 110, 116, 61, 48, 49, 51, 66]⟩ : ByteArray)] : List ByteArray))
set_option maxHeartbeats 8000000 in
set_option maxRecDepth 100000 in
theorem glyph_part2.calls  (r : List ByteArray) (w : World) (h : glyph_part2.f  = some r) :
    Calls Tryz.prog 125 #[] w fun e w' => ∃ v0_ : Value, e = .returned (v0_) ∧ Kd.R Kd.string 9 w' w.heap.size (fun _ => True) v0_ r ∧ Below w.heap.size w w' := by
  have HB := Aside0.mk (Below.refl w.heap.size w)
  have Ny136 := Aside0.mk (Option.some.inj (show some _ = some r from h)).symm
  clear h
  go_enter Tryz.func125, Tryz.ntmps125
  go_wp2_with (first | ((with_reducible refine gate_dst (N := 1) rfl ?_); refine Kd.R_lit Kd.string _ 9 ?hg (N := 1) ?hd (xs := r) (inner := [.string (⟨#[100, 105, 118, 105, 100, 101, 61, 48, 48, 70, 55, 32, 111, 115, 108, 97, 115, 104, 61, 48, 48, 70, 56, 32, 117, 103, 114, 97, 118, 101, 61, 48, 48, 70, 57, 32, 117, 97, 99, 117, 116, 101, 61, 48, 48, 70, 65, 32, 117, 99, 105, 114, 99, 117, 109, 102, 108, 101, 120, 61, 48, 48, 70, 66, 32, 117, 100, 105, 101, 114, 101, 115, 105, 115, 61, 48, 48, 70, 67]⟩ : ByteArray), .string (⟨#[121, 97, 99, 117, 116, 101, 61, 48, 48, 70, 68, 32, 116, 104, 111, 114, 110, 61, 48, 48, 70, 69, 32, 121, 100, 105, 101, 114, 101, 115, 105, 115, 61, 48, 48, 70, 70, 32, 69, 117, 114, 111, 61, 50, 48, 65, 67, 32, 113, 117, 111, 116, 101, 115, 105, 110, 103, 108, 98, 97, 115, 101, 61, 50, 48, 49, 65, 32, 102, 108, 111, 114, 105, 110, 61, 48, 49, 57, 50]⟩ : ByteArray), .string (⟨#[113, 117, 111, 116, 101, 100, 98, 108, 98, 97, 115, 101, 61, 50, 48, 49, 69, 32, 101, 108, 108, 105, 112, 115, 105, 115, 61, 50, 48, 50, 54, 32, 100, 97, 103, 103, 101, 114, 61, 50, 48, 50, 48, 32, 100, 97, 103, 103, 101, 114, 100, 98, 108, 61, 50, 48, 50, 49, 32, 99, 105, 114, 99, 117, 109, 102, 108, 101, 120, 61, 48, 50, 67, 54, 32, 112, 101, 114, 116, 104, 111, 117, 115, 97, 110, 100, 61, 50, 48, 51, 48]⟩ : ByteArray), .string (⟨#[83, 99, 97, 114, 111, 110, 61, 48, 49, 54, 48, 32, 103, 117, 105, 108, 115, 105, 110, 103, 108, 108, 101, 102, 116, 61, 50, 48, 51, 57, 32, 79, 69, 61, 48, 49, 53, 50, 32, 90, 99, 97, 114, 111, 110, 61, 48, 49, 55, 68, 32, 113, 117, 111, 116, 101, 108, 101, 102, 116, 61, 50, 48, 49, 56, 32, 113, 117, 111, 116, 101, 114, 105, 103, 104, 116, 61, 50, 48, 49, 57]⟩ : ByteArray), .string (⟨#[113, 117, 111, 116, 101, 100, 98, 108, 108, 101, 102, 116, 61, 50, 48, 49, 67, 32, 113, 117, 111, 116, 101, 100, 98, 108, 114, 105, 103, 104, 116, 61, 50, 48, 49, 68, 32, 98, 117, 108, 108, 101, 116, 61, 50, 48, 50, 50, 32, 101, 110, 100, 97, 115, 104, 61, 50, 48, 49, 51, 32, 101, 109, 100, 97, 115, 104, 61, 50, 48, 49, 52, 32, 116, 105, 108, 100, 101, 61, 48, 50, 68, 67]⟩ : ByteArray), .string (⟨#[116, 114, 97, 100, 101, 109, 97, 114, 107, 61, 50, 49, 50, 50, 32, 115, 99, 97, 114, 111, 110, 61, 48, 49, 54, 49, 32, 103, 117, 105, 108, 115, 105, 110, 103, 108, 114, 105, 103, 104, 116, 61, 50, 48, 51, 65, 32, 111, 101, 61, 48, 49, 53, 51, 32, 122, 99, 97, 114, 111, 110, 61, 48, 49, 55, 69, 32, 89, 100, 105, 101, 114, 101, 115, 105, 115, 61, 48, 49, 55, 56]⟩ : ByteArray), .string (⟨#[102, 105, 61, 70, 66, 48, 49, 32, 102, 108, 61, 70, 66, 48, 50, 32, 102, 114, 97, 99, 116, 105, 111, 110, 61, 50, 48, 52, 52, 32, 100, 111, 116, 108, 101, 115, 115, 105, 61, 48, 49, 51, 49, 32, 76, 115, 108, 97, 115, 104, 61, 48, 49, 52, 49, 32, 108, 115, 108, 97, 115, 104, 61, 48, 49, 52, 50]⟩ : ByteArray), .string (⟨#[98, 114, 101, 118, 101, 61, 48, 50, 68, 56, 32, 99, 97, 114, 111, 110, 61, 48, 50, 67, 55, 32, 100, 111, 116, 97, 99, 99, 101, 110, 116, 61, 48, 50, 68, 57, 32, 104, 117, 110, 103, 97, 114, 117, 109, 108, 97, 117, 116, 61, 48, 50, 68, 68, 32, 111, 103, 111, 110, 101, 107, 61, 48, 50, 68, 66, 32, 114, 105, 110, 103, 61, 48, 50, 68, 65]⟩ : ByteArray), .string (⟨#[109, 105, 110, 117, 115, 61, 50, 50, 49, 50, 32, 110, 111, 116, 101, 113, 117, 97, 108, 61, 50, 50, 54, 48, 32, 105, 110, 102, 105, 110, 105, 116, 121, 61, 50, 50, 49, 69, 32, 108, 101, 115, 115, 101, 113, 117, 97, 108, 61, 50, 50, 54, 52, 32, 103, 114, 101, 97, 116, 101, 114, 101, 113, 117, 97, 108, 61, 50, 50, 54, 53, 32, 112, 97, 114, 116, 105, 97, 108, 100, 105, 102, 102, 61, 50, 50, 48, 50]⟩ : ByteArray), .string (⟨#[115, 117, 109, 109, 97, 116, 105, 111, 110, 61, 50, 50, 49, 49, 32, 112, 114, 111, 100, 117, 99, 116, 61, 50, 50, 48, 70, 32, 112, 105, 61, 48, 51, 67, 48, 32, 105, 110, 116, 101, 103, 114, 97, 108, 61, 50, 50, 50, 66, 32, 79, 109, 101, 103, 97, 61, 50, 49, 50, 54, 32, 114, 97, 100, 105, 99, 97, 108, 61, 50, 50, 49, 65]⟩ : ByteArray), .string (⟨#[97, 112, 112, 114, 111, 120, 101, 113, 117, 97, 108, 61, 50, 50, 52, 56, 32, 68, 101, 108, 116, 97, 61, 50, 50, 48, 54, 32, 108, 111, 122, 101, 110, 103, 101, 61, 50, 53, 67, 65, 32, 97, 112, 112, 108, 101, 61, 70, 56, 70, 70, 32, 65, 108, 112, 104, 97, 61, 48, 51, 57, 49, 32, 66, 101, 116, 97, 61, 48, 51, 57, 50]⟩ : ByteArray), .string (⟨#[71, 97, 109, 109, 97, 61, 48, 51, 57, 51, 32, 69, 112, 115, 105, 108, 111, 110, 61, 48, 51, 57, 53, 32, 90, 101, 116, 97, 61, 48, 51, 57, 54, 32, 69, 116, 97, 61, 48, 51, 57, 55, 32, 84, 104, 101, 116, 97, 61, 48, 51, 57, 56, 32, 73, 111, 116, 97, 61, 48, 51, 57, 57]⟩ : ByteArray), .string (⟨#[75, 97, 112, 112, 97, 61, 48, 51, 57, 65, 32, 76, 97, 109, 98, 100, 97, 61, 48, 51, 57, 66, 32, 77, 117, 61, 48, 51, 57, 67, 32, 78, 117, 61, 48, 51, 57, 68, 32, 88, 105, 61, 48, 51, 57, 69, 32, 79, 109, 105, 99, 114, 111, 110, 61, 48, 51, 57, 70]⟩ : ByteArray), .string (⟨#[80, 105, 61, 48, 51, 65, 48, 32, 82, 104, 111, 61, 48, 51, 65, 49, 32, 83, 105, 103, 109, 97, 61, 48, 51, 65, 51, 32, 84, 97, 117, 61, 48, 51, 65, 52, 32, 85, 112, 115, 105, 108, 111, 110, 61, 48, 51, 65, 53, 32, 80, 104, 105, 61, 48, 51, 65, 54]⟩ : ByteArray), .string (⟨#[67, 104, 105, 61, 48, 51, 65, 55, 32, 80, 115, 105, 61, 48, 51, 65, 56, 32, 97, 108, 112, 104, 97, 61, 48, 51, 66, 49, 32, 98, 101, 116, 97, 61, 48, 51, 66, 50, 32, 103, 97, 109, 109, 97, 61, 48, 51, 66, 51, 32, 100, 101, 108, 116, 97, 61, 48, 51, 66, 52]⟩ : ByteArray), .string (⟨#[101, 112, 115, 105, 108, 111, 110, 61, 48, 51, 66, 53, 32, 122, 101, 116, 97, 61, 48, 51, 66, 54, 32, 101, 116, 97, 61, 48, 51, 66, 55, 32, 116, 104, 101, 116, 97, 61, 48, 51, 66, 56, 32, 105, 111, 116, 97, 61, 48, 51, 66, 57, 32, 107, 97, 112, 112, 97, 61, 48, 51, 66, 65]⟩ : ByteArray), .string (⟨#[108, 97, 109, 98, 100, 97, 61, 48, 51, 66, 66, 32, 110, 117, 61, 48, 51, 66, 68, 32, 120, 105, 61, 48, 51, 66, 69, 32, 111, 109, 105, 99, 114, 111, 110, 61, 48, 51, 66, 70, 32, 114, 104, 111, 61, 48, 51, 67, 49, 32, 115, 105, 103, 109, 97, 49, 61, 48, 51, 67, 50]⟩ : ByteArray), .string (⟨#[115, 105, 103, 109, 97, 61, 48, 51, 67, 51, 32, 116, 97, 117, 61, 48, 51, 67, 52, 32, 117, 112, 115, 105, 108, 111, 110, 61, 48, 51, 67, 53, 32, 112, 104, 105, 61, 48, 51, 67, 54, 32, 99, 104, 105, 61, 48, 51, 67, 55, 32, 112, 115, 105, 61, 48, 51, 67, 56]⟩ : ByteArray), .string (⟨#[111, 109, 101, 103, 97, 61, 48, 51, 67, 57, 32, 116, 104, 101, 116, 97, 49, 61, 48, 51, 68, 49, 32, 85, 112, 115, 105, 108, 111, 110, 49, 61, 48, 51, 68, 50, 32, 112, 104, 105, 49, 61, 48, 51, 68, 53, 32, 111, 109, 101, 103, 97, 49, 61, 48, 51, 68, 54, 32, 117, 110, 105, 118, 101, 114, 115, 97, 108, 61, 50, 50, 48, 48]⟩ : ByteArray), .string (⟨#[101, 120, 105, 115, 116, 101, 110, 116, 105, 97, 108, 61, 50, 50, 48, 51, 32, 115, 117, 99, 104, 116, 104, 97, 116, 61, 50, 50, 48, 66, 32, 97, 115, 116, 101, 114, 105, 115, 107, 109, 97, 116, 104, 61, 50, 50, 49, 55, 32, 99, 111, 110, 103, 114, 117, 101, 110, 116, 61, 50, 50, 52, 53, 32, 116, 104, 101, 114, 101, 102, 111, 114, 101, 61, 50, 50, 51, 52, 32, 112, 101, 114, 112, 101, 110, 100, 105, 99, 117, 108, 97, 114, 61, 50, 50, 65, 53]⟩ : ByteArray), .string (⟨#[115, 105, 109, 105, 108, 97, 114, 61, 50, 50, 51, 67, 32, 109, 105, 110, 117, 116, 101, 61, 50, 48, 51, 50, 32, 99, 108, 117, 98, 61, 50, 54, 54, 51, 32, 100, 105, 97, 109, 111, 110, 100, 61, 50, 54, 54, 54, 32, 104, 101, 97, 114, 116, 61, 50, 54, 54, 53, 32, 115, 112, 97, 100, 101, 61, 50, 54, 54, 48]⟩ : ByteArray), .string (⟨#[97, 114, 114, 111, 119, 98, 111, 116, 104, 61, 50, 49, 57, 52, 32, 97, 114, 114, 111, 119, 108, 101, 102, 116, 61, 50, 49, 57, 48, 32, 97, 114, 114, 111, 119, 117, 112, 61, 50, 49, 57, 49, 32, 97, 114, 114, 111, 119, 114, 105, 103, 104, 116, 61, 50, 49, 57, 50, 32, 97, 114, 114, 111, 119, 100, 111, 119, 110, 61, 50, 49, 57, 51, 32, 115, 101, 99, 111, 110, 100, 61, 50, 48, 51, 51]⟩ : ByteArray), .string (⟨#[112, 114, 111, 112, 111, 114, 116, 105, 111, 110, 97, 108, 61, 50, 50, 49, 68, 32, 101, 113, 117, 105, 118, 97, 108, 101, 110, 99, 101, 61, 50, 50, 54, 49, 32, 97, 108, 101, 112, 104, 61, 50, 49, 51, 53, 32, 73, 102, 114, 97, 107, 116, 117, 114, 61, 50, 49, 49, 49, 32, 82, 102, 114, 97, 107, 116, 117, 114, 61, 50, 49, 49, 67, 32, 119, 101, 105, 101, 114, 115, 116, 114, 97, 115, 115, 61, 50, 49, 49, 56]⟩ : ByteArray), .string (⟨#[99, 105, 114, 99, 108, 101, 109, 117, 108, 116, 105, 112, 108, 121, 61, 50, 50, 57, 55, 32, 99, 105, 114, 99, 108, 101, 112, 108, 117, 115, 61, 50, 50, 57, 53, 32, 101, 109, 112, 116, 121, 115, 101, 116, 61, 50, 50, 48, 53, 32, 105, 110, 116, 101, 114, 115, 101, 99, 116, 105, 111, 110, 61, 50, 50, 50, 57, 32, 117, 110, 105, 111, 110, 61, 50, 50, 50, 65, 32, 112, 114, 111, 112, 101, 114, 115, 117, 112, 101, 114, 115, 101, 116, 61, 50, 50, 56, 51]⟩ : ByteArray), .string (⟨#[114, 101, 102, 108, 101, 120, 115, 117, 112, 101, 114, 115, 101, 116, 61, 50, 50, 56, 55, 32, 110, 111, 116, 115, 117, 98, 115, 101, 116, 61, 50, 50, 56, 52, 32, 112, 114, 111, 112, 101, 114, 115, 117, 98, 115, 101, 116, 61, 50, 50, 56, 50, 32, 114, 101, 102, 108, 101, 120, 115, 117, 98, 115, 101, 116, 61, 50, 50, 56, 54, 32, 101, 108, 101, 109, 101, 110, 116, 61, 50, 50, 48, 56, 32, 110, 111, 116, 101, 108, 101, 109, 101, 110, 116, 61, 50, 50, 48, 57]⟩ : ByteArray), .string (⟨#[97, 110, 103, 108, 101, 61, 50, 50, 50, 48, 32, 103, 114, 97, 100, 105, 101, 110, 116, 61, 50, 50, 48, 55, 32, 100, 111, 116, 109, 97, 116, 104, 61, 50, 50, 67, 53, 32, 108, 111, 103, 105, 99, 97, 108, 97, 110, 100, 61, 50, 50, 50, 55, 32, 108, 111, 103, 105, 99, 97, 108, 111, 114, 61, 50, 50, 50, 56, 32, 97, 114, 114, 111, 119, 100, 98, 108, 98, 111, 116, 104, 61, 50, 49, 68, 52]⟩ : ByteArray), .string (⟨#[97, 114, 114, 111, 119, 100, 98, 108, 108, 101, 102, 116, 61, 50, 49, 68, 48, 32, 97, 114, 114, 111, 119, 100, 98, 108, 117, 112, 61, 50, 49, 68, 49, 32, 97, 114, 114, 111, 119, 100, 98, 108, 114, 105, 103, 104, 116, 61, 50, 49, 68, 50, 32, 97, 114, 114, 111, 119, 100, 98, 108, 100, 111, 119, 110, 61, 50, 49, 68, 51, 32, 97, 110, 103, 108, 101, 108, 101, 102, 116, 61, 50, 51, 50, 57, 32, 97, 110, 103, 108, 101, 114, 105, 103, 104, 116, 61, 50, 51, 50, 65]⟩ : ByteArray), .string (⟨#[100, 97, 108, 101, 116, 104, 97, 116, 97, 102, 112, 97, 116, 97, 104, 61, 48, 53, 68, 51, 44, 48, 53, 66, 50, 32, 102, 102, 61, 70, 66, 48, 48, 32, 102, 102, 105, 61, 70, 66, 48, 51, 32, 102, 102, 108, 61, 70, 66, 48, 52, 32, 65, 109, 97, 99, 114, 111, 110, 61, 48, 49, 48, 48, 32, 97, 109, 97, 99, 114, 111, 110, 61, 48, 49, 48, 49]⟩ : ByteArray), .string (⟨#[65, 98, 114, 101, 118, 101, 61, 48, 49, 48, 50, 32, 97, 98, 114, 101, 118, 101, 61, 48, 49, 48, 51, 32, 76, 99, 111, 109, 109, 97, 97, 99, 99, 101, 110, 116, 61, 48, 49, 51, 66]⟩ : ByteArray)]) (ok := fun _ => True) (okp := fun _ => True) ?hr ?hp (fun _ hk => hk) trivial (Below.refl _ _) (Nat.le_refl _) (by rw [Ny136.out]; simp) ?_; (case hd => rfl); (case hg => rfl); (case hr => rw [Ny136.out]; first | (go_simp; done) | (go_simp; rfl)); (case hp => rw [Ny136.out]; exact (Reps.one rfl (Reps.one rfl (Reps.one rfl (Reps.one rfl (Reps.one rfl (Reps.one rfl (Reps.one rfl (Reps.one rfl (Reps.one rfl (Reps.one rfl (Reps.one rfl (Reps.one rfl (Reps.one rfl (Reps.one rfl (Reps.one rfl (Reps.one rfl (Reps.one rfl (Reps.one rfl (Reps.one rfl (Reps.one rfl (Reps.one rfl (Reps.one rfl (Reps.one rfl (Reps.one rfl (Reps.one rfl (Reps.one rfl (Reps.one rfl (Reps.one rfl (Reps.one rfl (Reps.none _ _))))))))))))))))))))))))))))))); intro v137 w1 ho2 hb hg_ hnew_; clear hg_ hnew_; have n0_ := Aside0.mk (Kd.R_lower ho2 (below_size (by repeat (first | (with_reducible first | exact HB.out | apply below_alloc | apply pw_below_drewN | apply below_drew1) | exact HB.out)))); have n1_ := Aside0.mk (below_step (by repeat (first | (with_reducible first | exact HB.out | apply below_alloc | apply pw_below_drewN | apply below_drew1) | exact HB.out)) hb); clear HB; have HO138 := n0_; have HB := n1_; clear n0_ n1_; clear hb ho2))
  go_ret
  exact ⟨_, by first | rfl | (simp [errW_none, errW_some] <;> rfl) | (simp [*, errW_none, errW_some] <;> rfl), by (with_reducible repeat (first | apply Kd.R_alloc | apply Kd.R_drewN | apply Kd.R_drew)); exact HO138.out, by repeat (first | (with_reducible first | exact HB.out | apply below_alloc | apply pw_below_drewN | apply below_drew1) | exact HB.out)⟩
end Go.Proofs.YtdcldaknmenklaaGreatDoor.M
end
section
/- Laid by this session's program hbprint.py out of the translation: the function hornbook/glyph.list and its contract. -/
namespace Go.Proofs.YtdcldaknmenklaaGreatDoor.M
open Go.RowKit Go.Proofs.YtdcldaknmenklaaGreatDoorW.PrintWords Go.Proofs.YtdcldaknmenklaaGreatDoorW.PrintLast Go.Proofs.YtdcldaknmenklaaGreatDoorW.PrintMore
attribute [local go_sem] max2_int min2_int max_two min_two max_three min_three max_four min_four
set_option linter.unusedVariables false
set_option linter.unusedSimpArgs false
def glyph_list.f (k : Nat)  : Option (ByteArray) := (glyph_part1.f).bind fun t139 => ((glyph_part2.f).bind fun t142 => ((slices_Concat_string_string.f k (([t139, t142] : List (List ByteArray)))).bind fun t148 => ((strings_Join.f t148 (⟨#[32]⟩ : ByteArray)).bind fun t151 => (if 1 + t151.size ≤ 9223372036854775807 then (if ((⟨#[32]⟩ : ByteArray) ++ t151).size + 1 ≤ 9223372036854775807 then (some (((⟨#[32]⟩ : ByteArray) ++ t151) ++ (⟨#[32]⟩ : ByteArray))) else (none)) else (none)))))
theorem glyph_list.mono : ∀ k, LeO (glyph_list.f k ) (glyph_list.f (k + 1) ) := by
  intro  k
  unfold glyph_list.f
  repeat' first
      | (with_reducible exact slices_Concat_string_string.mono _ _)
      | (with_reducible exact LeO.refl _)
      | (with_reducible exact LeO.none _)
      | (with_reducible refine LeO.ite ?_ ?_)
      | (with_reducible refine LeO.bind ?_ (fun _ => ?_))
      | exact slices_Concat_string_string.mono _ _
      | exact LeO.none _
      | refine LeO.ite ?_ ?_
      | refine LeO.bind ?_ (fun _ => ?_)
set_option maxHeartbeats 8000000 in
set_option maxRecDepth 100000 in
theorem glyph_list.calls (k : Nat)  (r : ByteArray) (w : World) (h : glyph_list.f k  = some r) :
    Calls Tryz.prog 104 #[] w fun e w' => e = .returned (.string r) ∧ Below w.heap.size w w' := by
  have HB := Aside0.mk (Below.refl w.heap.size w)
  have H : ((glyph_part1.f).bind fun t139 => ((glyph_part2.f).bind fun t142 => ((slices_Concat_string_string.f k (([t139, t142] : List (List ByteArray)))).bind fun t148 => ((strings_Join.f t148 (⟨#[32]⟩ : ByteArray)).bind fun t151 => (if 1 + t151.size ≤ 9223372036854775807 then (if ((⟨#[32]⟩ : ByteArray) ++ t151).size + 1 ≤ 9223372036854775807 then (some (((⟨#[32]⟩ : ByteArray) ++ t151) ++ (⟨#[32]⟩ : ByteArray))) else (none)) else (none)))))) = some r := h
  clear h
  replace H := Option.bind_eq_some_iff.mp H
  obtain ⟨t139, A10, H⟩ := H
  replace H : ((glyph_part2.f).bind fun t142 => ((slices_Concat_string_string.f k (([t139, t142] : List (List ByteArray)))).bind fun t148 => ((strings_Join.f t148 (⟨#[32]⟩ : ByteArray)).bind fun t151 => (if 1 + t151.size ≤ 9223372036854775807 then (if ((⟨#[32]⟩ : ByteArray) ++ t151).size + 1 ≤ 9223372036854775807 then (some (((⟨#[32]⟩ : ByteArray) ++ t151) ++ (⟨#[32]⟩ : ByteArray))) else (none)) else (none))))) = some r := H
  have A1 := Aside0.mk A10
  clear A10
  replace H := Option.bind_eq_some_iff.mp H
  obtain ⟨t142, A20, H⟩ := H
  replace H : ((slices_Concat_string_string.f k (([t139, t142] : List (List ByteArray)))).bind fun t148 => ((strings_Join.f t148 (⟨#[32]⟩ : ByteArray)).bind fun t151 => (if 1 + t151.size ≤ 9223372036854775807 then (if ((⟨#[32]⟩ : ByteArray) ++ t151).size + 1 ≤ 9223372036854775807 then (some (((⟨#[32]⟩ : ByteArray) ++ t151) ++ (⟨#[32]⟩ : ByteArray))) else (none)) else (none)))) = some r := H
  have A2 := Aside0.mk A20
  clear A20
  obtain ⟨y145, hy145⟩ : ∃ y_ : List (List ByteArray), y_ = (([t139, t142] : List (List ByteArray))) := ⟨_, rfl⟩
  replace H : ((slices_Concat_string_string.f k y145).bind fun t148 => ((strings_Join.f t148 (⟨#[32]⟩ : ByteArray)).bind fun t151 => (if 1 + t151.size ≤ 9223372036854775807 then (if ((⟨#[32]⟩ : ByteArray) ++ t151).size + 1 ≤ 9223372036854775807 then (some (((⟨#[32]⟩ : ByteArray) ++ t151) ++ (⟨#[32]⟩ : ByteArray))) else (none)) else (none)))) = some r := by first | (rw [hy145]; with_reducible exact H) | (have H2_ := (Option.bind_some _ _).symm.trans H; rw [hy145]; with_reducible exact H2_) | (have H2_ := (Option.bind_some _ _).symm.trans H; with_reducible exact H2_) | with_reducible exact H | (rw [hy145]; exact H) | exact H
  have Ny145 := Aside0.mk hy145
  clear hy145
  replace H := Option.bind_eq_some_iff.mp H
  obtain ⟨t148, A30, H⟩ := H
  replace H : ((strings_Join.f t148 (⟨#[32]⟩ : ByteArray)).bind fun t151 => (if 1 + t151.size ≤ 9223372036854775807 then (if ((⟨#[32]⟩ : ByteArray) ++ t151).size + 1 ≤ 9223372036854775807 then (some (((⟨#[32]⟩ : ByteArray) ++ t151) ++ (⟨#[32]⟩ : ByteArray))) else (none)) else (none))) = some r := H
  have A3 := Aside0.mk A30
  clear A30
  replace H := Option.bind_eq_some_iff.mp H
  obtain ⟨t151, A40, H⟩ := H
  replace H : (if 1 + t151.size ≤ 9223372036854775807 then (if ((⟨#[32]⟩ : ByteArray) ++ t151).size + 1 ≤ 9223372036854775807 then (some (((⟨#[32]⟩ : ByteArray) ++ t151) ++ (⟨#[32]⟩ : ByteArray))) else (none)) else (none)) = some r := H
  have A4 := Aside0.mk A40
  clear A40
  by_cases c5 : 1 + t151.size ≤ 9223372036854775807
  · rw [if_pos c5] at H
    have c5b0 := eq_true c5
    have c5b1 : decide (1 + t151.size ≤ 9223372036854775807) = true := decide_eq_true c5
    try have c5b2 : (9223372036854775807 < 1 + t151.size) = False := eq_false (Nat.not_lt.2 c5)
    by_cases c6 : ((⟨#[32]⟩ : ByteArray) ++ t151).size + 1 ≤ 9223372036854775807
    · rw [if_pos c6] at H
      have c6b0 := eq_true c6
      have c6b1 : decide (((⟨#[32]⟩ : ByteArray) ++ t151).size + 1 ≤ 9223372036854775807) = true := decide_eq_true c6
      try have c6b2 : (9223372036854775807 < ((⟨#[32]⟩ : ByteArray) ++ t151).size + 1) = False := eq_false (Nat.not_lt.2 c6)
      try have c6b9 : (9223372036854775807 < (1 + t151.size) + 1) = False := eq_false (Nat.not_lt.2 (by have h_ := c6; (repeat rw [ByteArray.size_append] at h_); exact h_))
      obtain rfl := Option.some.inj H
      go_enter Tryz.func104, Tryz.ntmps104
      go_wp2_with (first | ((with_reducible refine gate_callee (f := 124) rfl ?_); refine goesL_ (some 1) rfl rfl Tryz.func124 (by kernel_rfl) rfl #[] rfl (by (try simp only [List.map_toArray, List.map_cons, List.map_nil]); first | done | rfl | (simp only [List.length_drop, List.length_take]; rfl)) ?_; (with_reducible refine (glyph_part1.calls  t139 _ A1.out).mono ?_); rintro e w7 ⟨v140, rfl, ho0, hb⟩; refine ⟨_, rfl, ?_⟩; have n0_ := Aside0.mk (Kd.R_lower ho0 (below_size (by repeat (first | (with_reducible first | exact HB.out | apply below_alloc | apply pw_below_drewN | apply below_drew1) | exact HB.out)))); have n1_ := Aside0.mk (below_step (by repeat (first | (with_reducible first | exact HB.out | apply below_alloc | apply pw_below_drewN | apply below_drew1) | exact HB.out)) hb); clear HB; have HO141 := n0_; have HB := n1_; clear n0_ n1_; (try clear hb); (try clear hb2); (try clear hk); (try clear hi); (try clear ho0)) | ((with_reducible refine gate_callee (f := 125) rfl ?_); refine goesL_ (some 2) rfl rfl Tryz.func125 (by kernel_rfl) rfl #[] rfl (by (try simp only [List.map_toArray, List.map_cons, List.map_nil]); first | done | rfl | (simp only [List.length_drop, List.length_take]; rfl)) ?_; (with_reducible refine (glyph_part2.calls  t142 _ A2.out).mono ?_); rintro e w8 ⟨v143, rfl, ho0, hb⟩; refine ⟨_, rfl, ?_⟩; have n0_ := Aside0.mk (Kd.R_elder' (by (with_reducible repeat (first | apply Kd.R_alloc | apply Kd.R_drewN | apply Kd.R_drew)); exact HO141.out) (Kd.R_base ho0) hb); have n1_ := Aside0.mk (Kd.R_lower (Kd.R_new' ho0 (Kd.R_lt (by (with_reducible repeat (first | apply Kd.R_alloc | apply Kd.R_drewN | apply Kd.R_drew)); exact HO141.out))) (below_size (by repeat (first | (with_reducible first | exact HB.out | apply below_alloc | apply pw_below_drewN | apply below_drew1) | exact HB.out)))); have n2_ := Aside0.mk (below_step (by repeat (first | (with_reducible first | exact HB.out | apply below_alloc | apply pw_below_drewN | apply below_drew1) | exact HB.out)) hb); clear HO141; clear HB; have HO141 := n0_; have HO144 := n1_; have HB := n2_; clear n0_ n1_ n2_; (try clear hb); (try clear hb2); (try clear hk); (try clear hi); (try clear ho0); obtain ⟨Ao9, co9, eo9⟩ := Kd.R_slice HO141.out; subst eo9; obtain ⟨Ao10, co10, eo10⟩ := Kd.R_slice HO144.out; subst eo10) | ((with_reducible refine gate_dst (N := 3) rfl ?_); refine Kd.N_lit (Kd.slice 9 Kd.string) _ 25 ?hg (N' := 3) ?hd (xs := ([t139, t142] : List (List ByteArray))) (inner := [.slice Ao9 t139.length co9, .slice Ao10 t142.length co10]) (ok := (fun _ => True)) (okp := (fun _ => True)) ?hr ?hp (fun _ hk => hk) ((show ∀ k_, w8.heap.size ≤ k_ → (fun _ => True) k_ from fun k_ hk => trivial) _ (Nat.le_refl _)) (Below.refl _ _) (Nat.le_refl _) (by simp) ?_; (case hd => rfl); (case hg => rfl); (case hr => first | (go_simp; done) | (go_simp; rfl)); (case hp => exact (Reps.one (show Kd.FK (Kd.slice 9 Kd.string) _ _ t139 [.slice Ao9 t139.length co9] from (Kd.FK_slice_mk (Kd.R_reads' (Kd.R_mono (ok' := (fun _ => True)) (HO141.out) (fun k_ hk => trivial))).2.1 (Kd.R_F (Kd.R_mono (ok' := (fun _ => True)) (HO141.out) (fun k_ hk => trivial))))) (Reps.one (show Kd.FK (Kd.slice 9 Kd.string) _ _ t142 [.slice Ao10 t142.length co10] from (Kd.FK_slice_mk (Kd.R_reads' (Kd.R_mono (ok' := (fun _ => True)) (HO144.out) (fun k_ hk => trivial))).2.1 (Kd.R_F (Kd.R_mono (ok' := (fun _ => True)) (HO144.out) (fun k_ hk => trivial))))) (Reps.none _ _)))); intro v146 w11 ho12 hb hg_ hnew_; clear hg_ hnew_; (first | rw [← Ny145.out] at ho12 | (simp only [Int.reduceToNat] at ho12; rw [← Ny145.out] at ho12)); have n0_ := Aside0.mk (Kd.N_lower ho12 (below_size (by repeat (first | (with_reducible first | exact HB.out | apply below_alloc | apply pw_below_drewN | apply below_drew1) | exact HB.out)))); have n1_ := Aside0.mk (below_step (by repeat (first | (with_reducible first | exact HB.out | apply below_alloc | apply pw_below_drewN | apply below_drew1) | exact HB.out)) hb); clear HB; clear HO141; clear HO144; have HO147 := n0_; have HB := n1_; clear n0_ n1_; clear hb ho12; obtain ⟨Ao13, co13, eo13⟩ := Kd.N_slice HO147.out; subst eo13) | ((with_reducible refine gate_callee (f := 123) rfl ?_); refine goesL_ (some 4) rfl rfl Tryz.func123 (by kernel_rfl) rfl #[.slice Ao13 y145.length co13] rfl (by (try simp only [List.map_toArray, List.map_cons, List.map_nil]); first | done | rfl | (simp only [List.length_drop, List.length_take]; rfl)) ?_; (with_reducible refine (slices_Concat_string_string.calls k _ _ y145 t148 _ ?side1 ?side2 A3.out).mono ?_); (case side1 => repeat (first | exact (Kd.N_reads' HO147.out).2.2 | (with_reducible refine Kd.C_alloc ?_ _) | (with_reducible refine Kd.C_drewN ?_ _) | (with_reducible refine Kd.C_drew ?_))); (case side2 => exact (Kd.N_reads' HO147.out).2.1); rintro e w14 ⟨v149, rfl, ho0, hb⟩; refine ⟨_, rfl, ?_⟩; have n0_ := Aside0.mk (Kd.N_elder' (by (with_reducible repeat (first | apply Kd.N_alloc | apply Kd.N_drewN | apply Kd.N_drew)); exact HO147.out) (Kd.R_base ho0) hb); have n1_ := Aside0.mk (Kd.R_lower ho0 (below_size (by repeat (first | (with_reducible first | exact HB.out | apply below_alloc | apply pw_below_drewN | apply below_drew1) | exact HB.out)))); have n2_ := Aside0.mk (below_step (by repeat (first | (with_reducible first | exact HB.out | apply below_alloc | apply pw_below_drewN | apply below_drew1) | exact HB.out)) hb); clear HO147; clear HB; have HO147 := n0_; have HO150 := n1_; have HB := n2_; clear n0_ n1_ n2_; (try clear hb); (try clear hb2); (try clear hk); (try clear hi); (try clear ho0); obtain ⟨Ao15, co15, eo15⟩ := Kd.R_slice HO150.out; subst eo15) | ((with_reducible refine gate_callee (f := 34) rfl ?_); refine goesL_ (some 5) rfl rfl Tryz.func34 (by kernel_rfl) rfl #[.slice Ao15 t148.length co15, .string (⟨#[32]⟩ : ByteArray)] rfl (by (try simp only [List.map_toArray, List.map_cons, List.map_nil]); first | done | rfl | (simp only [List.length_drop, List.length_take]; rfl)) ?_; (with_reducible refine (strings_Join.calls _ _ t148 (⟨#[32]⟩ : ByteArray) t151 _ ?side1 ?side2 A4.out).mono ?_); (case side1 => repeat (first | exact (Kd.R_reads' HO150.out).2.2 | (with_reducible refine Kd.C_alloc ?_ _) | (with_reducible refine Kd.C_drewN ?_ _) | (with_reducible refine Kd.C_drew ?_))); (case side2 => exact (Kd.R_reads' HO150.out).2.1); rintro e w16 ⟨rfl, hb⟩; refine ⟨_, rfl, ?_⟩; have n0_ := Aside0.mk (Kd.N_below (by (with_reducible repeat (first | apply Kd.N_alloc | apply Kd.N_drewN | apply Kd.N_drew)); exact HO147.out) hb); have n1_ := Aside0.mk (Kd.R_below (by (with_reducible repeat (first | apply Kd.R_alloc | apply Kd.R_drewN | apply Kd.R_drew)); exact HO150.out) hb); have n2_ := Aside0.mk (below_step (by repeat (first | (with_reducible first | exact HB.out | apply below_alloc | apply pw_below_drewN | apply below_drew1) | exact HB.out)) hb); clear HO147; clear HO150; clear HB; have HO147 := n0_; have HO150 := n1_; have HB := n2_; clear n0_ n1_ n2_; (try clear hb); (try clear hb2); (try clear hk); (try clear hi)))
      go_ret
      exact ⟨by first | rfl | (simp [errW_none, errW_some] <;> rfl) | (simp [*, errW_none, errW_some] <;> rfl), by repeat (first | (with_reducible first | exact HB.out | apply below_alloc | apply pw_below_drewN | apply below_drew1) | exact HB.out)⟩
    · rw [if_neg c6] at H
      exact absurd H (by simp)
  · rw [if_neg c5] at H
    exact absurd H (by simp)
end Go.Proofs.YtdcldaknmenklaaGreatDoor.M
end
section
namespace Go.Proofs.YtdcldaknmenklaaGreatDoor.M
open Go.RowKit Go.Proofs.YtdcldaknmenklaaGreatDoorW.PrintWords
set_option linter.unusedVariables false
def isAscii (l : List UInt8) : Bool := l.all fun b => decide (b.toNat < 128)
def fieldsB (a0 : ByteArray) : List ByteArray := (Lib.fields a0.data.toList).map fun l => ⟨l.toArray⟩
def strings_Fields.f (a0 : ByteArray) : Option (List ByteArray) := if a0.size < 4294967281 ∧ isAscii a0.data.toList = true ∧ (fieldsB a0).length ≤ 8796093022208 then some (fieldsB a0) else none
theorem strings_Fields.calls (a0 : ByteArray) (r : List ByteArray) (w : World) (hG : GW w) (h : strings_Fields.f a0 = some r) :
    Calls Tryz.prog 74 #[.string a0] w fun e w' => ∃ v0_ : Value, e = .returned (v0_) ∧ Kd.R Kd.string 9 w' w.heap.size (fun _ => True) v0_ r ∧ Below w.heap.size w w' := by
  unfold strings_Fields.f at h
  split at h
  case isFalse => cases h
  rename_i hb
  obtain rfl := Option.some.inj h
  obtain ⟨hb1, hb2, hb3⟩ := hb
  have hl : (fieldsB a0).length = (Lib.fields a0.data.toList).length := by simp [fieldsB]
  refine (Tryz.strings_Fields a0 w hb1 ?_ hG.space).mono ?_
  · intro j b hj
    have := List.all_eq_true.1 hb2 b (List.mem_of_getElem? hj)
    simpa using this
  · rintro e w' ⟨rfl, rfl⟩
    exact ⟨_, rfl, strings_fresh w (fieldsB a0) _ _ _ hl (Nat.le_refl _) (by unfold maxLen; omega) (by simp) (by rw [List.take_of_length_le (by simp)]; simp [fieldsB]), below_alloc (Below.refl _ _) _⟩
end Go.Proofs.YtdcldaknmenklaaGreatDoor.M
end
section
/- Laid by this session's program hbprint.py out of the translation: the function hornbook/glyph.Names and its contract. -/
namespace Go.Proofs.YtdcldaknmenklaaGreatDoor.M
open Go.RowKit Go.Proofs.YtdcldaknmenklaaGreatDoorW.PrintWords Go.Proofs.YtdcldaknmenklaaGreatDoorW.PrintLast Go.Proofs.YtdcldaknmenklaaGreatDoorW.PrintMore
attribute [local go_sem] max2_int min2_int max_two min_two max_three min_three max_four min_four
set_option linter.unusedVariables false
set_option linter.unusedSimpArgs false
def glyph_Names.l0 : Nat → List ByteArray → List ByteArray → Int → Int → Option (List ByteArray)
  | 0, _, _, _, _ => none
  | k + 1, x1, x8, x9, x10 => if x10 < x9 then (if 0 ≤ x10 then (if x10 < (x8.length : Int) then ((strings_Cut.f (rdOf ByteArray.empty x8 x10) (⟨#[61]⟩ : ByteArray)).bind fun bt157 => (if x1.length < 8796093022208 then (glyph_Names.l0 k (x1 ++ [bt157.1]) x8 x9 (wrap64 (x10 + 1))) else (none))) else (none)) else (none)) else (some x1)
def glyph_Names.f (k : Nat)  : Option (List ByteArray) := (glyph_list.f k).bind fun t152 => ((strings_Fields.f t152).bind fun t153 => (glyph_Names.l0 k ([] : List ByteArray) t153 (t153.length : Int) 0))
theorem glyph_Names.mono_l : ∀ k, (∀ y0 y1 y2 y3, LeO (glyph_Names.l0 k y0 y1 y2 y3) (glyph_Names.l0 (k + 1) y0 y1 y2 y3))
  | 0 => fun _ _ _ _ r h => by simp [glyph_Names.l0] at h
  | k + 1 => by
    have ih0 := glyph_Names.mono_l k
    · intro y0 y1 y2 y3
      unfold glyph_Names.l0
      repeat' first
      | (with_reducible exact ih0 _ _ _ _)
      | (with_reducible exact glyph_list.mono _)
      | (with_reducible exact LeO.refl _)
      | (with_reducible exact LeO.none _)
      | (with_reducible refine LeO.ite ?_ ?_)
      | (with_reducible refine LeO.bind ?_ (fun _ => ?_))
      | exact ih0 _ _ _ _
      | exact glyph_list.mono _
      | exact LeO.none _
      | refine LeO.ite ?_ ?_
      | refine LeO.bind ?_ (fun _ => ?_)
theorem glyph_Names.mono : ∀ k, LeO (glyph_Names.f k ) (glyph_Names.f (k + 1) ) := by
  intro  k
  have ih0 := glyph_Names.mono_l k
  unfold glyph_Names.f
  repeat' first
      | (with_reducible exact ih0 _ _ _ _)
      | (with_reducible exact glyph_list.mono _)
      | (with_reducible exact LeO.refl _)
      | (with_reducible exact LeO.none _)
      | (with_reducible refine LeO.ite ?_ ?_)
      | (with_reducible refine LeO.bind ?_ (fun _ => ?_))
      | exact ih0 _ _ _ _
      | exact glyph_list.mono _
      | exact LeO.none _
      | refine LeO.ite ?_ ?_
      | refine LeO.bind ?_ (fun _ => ?_)
set_option maxHeartbeats 8000000 in
set_option maxRecDepth 100000 in
theorem glyph_Names.calls (k : Nat)  (r : List ByteArray) (w : World) (hG : GW w) (h : glyph_Names.f k  = some r) :
    Calls Tryz.prog 73 #[] w fun e w' => ∃ v0_ : Value, e = .returned (v0_) ∧ Kd.R Kd.string 9 w' w.heap.size (fun _ => True) v0_ r ∧ Below w.heap.size w w' := by
  have HG := Aside0.mk hG
  clear hG
  have HB := Aside0.mk (Below.refl w.heap.size w)
  have H : ((glyph_list.f k).bind fun t152 => ((strings_Fields.f t152).bind fun t153 => (glyph_Names.l0 k ([] : List ByteArray) t153 (t153.length : Int) 0))) = some r := h
  clear h
  replace H := Option.bind_eq_some_iff.mp H
  obtain ⟨t152, A10, H⟩ := H
  replace H : ((strings_Fields.f t152).bind fun t153 => (glyph_Names.l0 k ([] : List ByteArray) t153 (t153.length : Int) 0)) = some r := H
  have A1 := Aside0.mk A10
  clear A10
  replace H := Option.bind_eq_some_iff.mp H
  obtain ⟨t153, A20, H⟩ := H
  replace H : (glyph_Names.l0 k ([] : List ByteArray) t153 (t153.length : Int) 0) = some r := H
  have A2 := Aside0.mk A20
  clear A20
  have H' := Aside0.mk H
  clear H
  go_enter Tryz.func73, Tryz.ntmps73
  go_wp2_with (first | ((with_reducible refine gate_callee (f := 104) rfl ?_); refine goesL_ (some 7) rfl rfl Tryz.func104 (by kernel_rfl) rfl #[] rfl (by (try simp only [List.map_toArray, List.map_cons, List.map_nil]); first | done | rfl | (simp only [List.length_drop, List.length_take]; rfl)) ?_; (with_reducible refine (glyph_list.calls k  t152 _ A1.out).mono ?_); rintro e w3 ⟨rfl, hb⟩; refine ⟨_, rfl, ?_⟩; have n0_ := Aside0.mk (below_step (by repeat (first | (with_reducible first | exact HB.out | apply below_alloc | apply pw_below_drewN | apply below_drew1) | exact HB.out)) hb); clear HB; have HB := n0_; clear n0_; (try clear hb); (try clear hb2); (try clear hk); (try clear hi)) | ((with_reducible refine gate_callee (f := 74) rfl ?_); refine goesL_ (some 8) rfl rfl Tryz.func74 (by kernel_rfl) rfl #[.string t152] rfl (by (try simp only [List.map_toArray, List.map_cons, List.map_nil]); first | done | rfl | (simp only [List.length_drop, List.length_take]; rfl)) ?_; (with_reducible refine (strings_Fields.calls t152 t153 _ ?side1 A2.out).mono ?_); (case side1 => exact GW.below (by repeat (first | (with_reducible first | exact HB.out | apply below_alloc | apply pw_below_drewN | apply below_drew1) | exact HB.out)) HG.out); rintro e w4 ⟨v154, rfl, ho0, hb⟩; refine ⟨_, rfl, ?_⟩; have n0_ := Aside0.mk (Kd.R_lower ho0 (below_size (by repeat (first | (with_reducible first | exact HB.out | apply below_alloc | apply pw_below_drewN | apply below_drew1) | exact HB.out)))); have n1_ := Aside0.mk (below_step (by repeat (first | (with_reducible first | exact HB.out | apply below_alloc | apply pw_below_drewN | apply below_drew1) | exact HB.out)) hb); clear HB; have HO155 := n0_; have HB := n1_; clear n0_ n1_; (try clear hb); (try clear hb2); (try clear hk); (try clear hi); (try clear ho0); obtain ⟨Ao5, co5, eo5⟩ := Kd.R_slice HO155.out; subst eo5))
  go_loopg [1, 10] k (fun kq v1 v10 w' => ∃ (x1_1 : List ByteArray) (x10_1 : Int), v10 = .int .i64 x10_1 ∧ Aside0 (glyph_Names.l0 kq x1_1 t153 (t153.length : Int) x10_1 = some r) ∧ Aside0 (kq ≤ k) ∧ Aside0 (Kd.R Kd.string 9 w' w.heap.size (fun k_ => some k_ ≠ ((.slice Ao5 t153.length co5) : Value).ownBlock) v1 x1_1) ∧ Aside0 (Kd.R Kd.string 9 w' w.heap.size (fun k_ => some k_ ≠ (v1 : Value).ownBlock) (.slice Ao5 t153.length co5) t153) ∧ Aside0 (Below w.heap.size w w'))
  case atStart => exact ⟨(([] : List ByteArray)), (0), (by first | rfl | (simp; done) | (simp [*]; done)), H', ⟨Nat.le_refl _⟩, ⟨by first | exact Kd.R_nil _ _ _ _ _ | exact Kd.N_nil _ _ _ _ _ | exact Kd.V_nil _ _ _ _ _ | exact Kd.Q_nil _ _ _ _ _ | exact Kd.S_nil _ _ _ _ _⟩, ⟨by (with_reducible repeat (first | apply Kd.R_alloc | apply Kd.R_drewN | apply Kd.R_drew)); exact Kd.R_mono HO155.out (fun _ hk => (by simp [Value.ownBlock]))⟩, ⟨by repeat (first | (with_reducible first | exact HB.out | apply below_alloc | apply pw_below_drewN | apply below_drew1) | exact HB.out)⟩⟩
  case round =>
    clear H'
    try clear c1
    try clear p2
    obtain ⟨x1_1, x10_1, rfl, HA, HK1, HO_1, HO_8, HB⟩ := hrel
    cases gk with
    | zero => exact absurd HA.out (by simp [glyph_Names.l0])
    | succ k1 =>
      have H := HA.out
      clear HA
      simp only [glyph_Names.l0] at H
      by_cases c6 : x10_1 < (t153.length : Int)
      · rw [if_pos c6] at H
        have c6b0 : decide (x10_1 < (t153.length : Int)) = true := decide_eq_true c6
        clear c6
        by_cases c7 : 0 ≤ x10_1
        · rw [if_pos c7] at H
          have c7b0 : decide (0 ≤ x10_1) = true := decide_eq_true c7
          clear c7
          by_cases c8 : x10_1 < (t153.length : Int)
          · rw [if_pos c8] at H
            have c8b0 : decide (x10_1 < (t153.length : Int)) = true := decide_eq_true c8
            clear c8
            replace H := Option.bind_eq_some_iff.mp H
            obtain ⟨⟨t157, t158, t159⟩, A90, H⟩ := H
            replace H : (if x1_1.length < 8796093022208 then (glyph_Names.l0 k1 (x1_1 ++ [t157]) t153 (t153.length : Int) (wrap64 (x10_1 + 1))) else (none)) = some r := H
            have A9 := Aside0.mk A90
            clear A90
            by_cases c10 : x1_1.length < 8796093022208
            · rw [if_pos c10] at H
              have LMc10 := Aside0.mk c10
              clear c10
              obtain ⟨y160, hy160⟩ : ∃ y_ : List ByteArray, y_ = (x1_1 ++ [t157]) := ⟨_, rfl⟩
              replace H : (glyph_Names.l0 k1 y160 t153 (t153.length : Int) (wrap64 (x10_1 + 1))) = some r := by first | (rw [hy160]; with_reducible exact H) | (have H2_ := (Option.bind_some _ _).symm.trans H; rw [hy160]; with_reducible exact H2_) | (have H2_ := (Option.bind_some _ _).symm.trans H; with_reducible exact H2_) | with_reducible exact H | (rw [hy160]; exact H) | exact H
              have Ny160 := Aside0.mk hy160
              clear hy160
              have H' := Aside0.mk H
              clear H
              have p156 : 0 ≤ (x10_1 : Int) := of_decide_eq_true (by first | (with_reducible assumption) | assumption)
              have q156 : x10_1 < (t153.length : Int) := of_decide_eq_true (by first | (with_reducible assumption) | assumption)
              obtain ⟨ad156, e156, hx156_0⟩ := Kd.at_string (Kd.R_reads' HO_8.out).2.2 x10_1 p156 q156
              cases e156
              replace p156 := eq_true p156
              replace q156 := eq_true q156
              go_wp2_with (first | ((with_reducible refine gate_callee (f := 75) rfl ?_); refine goesL_ (some 16) rfl rfl Tryz.func75 (by kernel_rfl) rfl #[.string (rdOf ByteArray.empty t153 x10_1), .string (⟨#[61]⟩ : ByteArray)] rfl (by (try simp only [List.map_toArray, List.map_cons, List.map_nil]); first | done | rfl | (simp only [List.length_drop, List.length_take]; rfl)) ?_; (with_reducible refine (strings_Cut.calls (rdOf ByteArray.empty t153 x10_1) (⟨#[61]⟩ : ByteArray) t157 t158 t159 _ ?side1 A9.out).mono ?_); (case side1 => exact GW.below (by repeat (first | (with_reducible first | exact HB.out | apply below_alloc | apply pw_below_drewN | apply below_drew1) | exact HB.out)) HG.out); rintro e w11 ⟨rfl, hb⟩; refine ⟨_, rfl, ?_⟩; have n0_ := Aside0.mk (Kd.R_below (by (with_reducible repeat (first | apply Kd.R_alloc | apply Kd.R_drewN | apply Kd.R_drew)); exact HO_1.out) hb); have n1_ := Aside0.mk (Kd.R_below (by (with_reducible repeat (first | apply Kd.R_alloc | apply Kd.R_drewN | apply Kd.R_drew)); exact HO_8.out) hb); have n2_ := Aside0.mk (below_step (by repeat (first | (with_reducible first | exact HB.out | apply below_alloc | apply pw_below_drewN | apply below_drew1) | exact HB.out)) hb); clear HO_1; clear HO_8; clear HB; have HO_1 := n0_; have HO_8 := n1_; have HB := n2_; clear n0_ n1_ n2_; (try clear hb); (try clear hb2); (try clear hk); (try clear hi)) | ((with_reducible refine gate_builtin (b := .append) (xs := #[.tmp 20, .tmp 22]) rfl ?_); at_builtin; refine Kd.R_append Kd.string (w0 := w) w.heap.size rfl (.tmp 20) (.tmp 22) 25 9 (.string ⟨#[]⟩) 16 rfl Tryz.underlying25 info9 rfl (by decide) (by omega) u1 x1_1 t157 [.string t157] (fun k_ => some k_ ≠ (.slice (some ad156) t153.length co5 : Value).ownBlock) (fun _ => False) rfl rfl ?aP (fun _ hk => hk.elim) ?aF ?aO ?aB ?aS ?aL ?_; (case aP => exact rfl); (case aB => exact (by repeat (first | (with_reducible first | exact HB.out | apply below_alloc | apply pw_below_drewN | apply below_drew1) | exact HB.out))); (case aF => exact (fun k_ hk => Kd.fresh' (Kd.R_lt (by (with_reducible repeat (first | apply Kd.R_alloc | apply Kd.R_drewN | apply Kd.R_drew)); exact HO_8.out)) k_ hk)); (case aO => exact (by (with_reducible repeat (first | apply Kd.R_alloc | apply Kd.R_drewN | apply Kd.R_drew)); exact HO_1.out)); (case aS => exact (below_size (by repeat (first | (with_reducible first | exact HB.out | apply below_alloc | apply pw_below_drewN | apply below_drew1) | exact HB.out)))); (case aL => have := LMc10.out; omega); intro v161 w12 ho hb hg hat; rw [← Ny160.out] at ho; have n0_ := Aside0.mk (Kd.R_after (ok := (fun _ => True)) (by (with_reducible repeat (first | apply Kd.R_alloc | apply Kd.R_drewN | apply Kd.R_drew)); exact Kd.R_mono HO_8.out (fun _ hk => ⟨trivial, hk⟩)) hg hat); have n1_ := Aside0.mk (hb); have n2_ := Aside0.mk (ho); clear HO_8; clear HB; clear HO_1; have HO_8 := n0_; have HB := n1_; have HO162 := n2_; clear n0_ n1_ n2_; clear ho hb hg hat))
              go_roundg k1
              case measure => have := HK1.out; omega
              case rel => exact ⟨(y160), (wrap64 (x10_1 + 1)), (by first | rfl | (simp; done) | (simp [*]; done)), H', ⟨by have := HK1.out; omega⟩, ⟨by (with_reducible repeat (first | apply Kd.R_alloc | apply Kd.R_drewN | apply Kd.R_drew)); exact HO162.out⟩, ⟨by (with_reducible repeat (first | apply Kd.R_alloc | apply Kd.R_drewN | apply Kd.R_drew)); exact Kd.R_mono HO_8.out (fun _ hk => hk.2)⟩, ⟨by repeat (first | (with_reducible first | exact HB.out | apply below_alloc | apply pw_below_drewN | apply below_drew1) | exact HB.out)⟩⟩
            · rw [if_neg c10] at H
              exact absurd H (by simp)
          · rw [if_neg c8] at H
            exact absurd H (by simp)
        · rw [if_neg c7] at H
          exact absurd H (by simp)
      · rw [if_neg c6] at H
        have c6b0 : decide (x10_1 < (t153.length : Int)) = false := decide_eq_false c6
        clear c6
        obtain rfl := Option.some.inj H
        go_wp2
        go_ret
        exact ⟨_, by first | rfl | (simp [errW_none, errW_some] <;> rfl) | (simp [*, errW_none, errW_some] <;> rfl), by (with_reducible repeat (first | apply Kd.R_alloc | apply Kd.R_drewN | apply Kd.R_drew)); exact Kd.R_mono HO_1.out (fun _ hk => trivial), by repeat (first | (with_reducible first | exact HB.out | apply below_alloc | apply pw_below_drewN | apply below_drew1) | exact HB.out)⟩
end Go.Proofs.YtdcldaknmenklaaGreatDoor.M
end
section
namespace Go.Proofs.YtdcldaknmenklaaGreatDoor.M
open Go.RowKit Go.Proofs.YtdcldaknmenklaaGreatDoorW.PrintWords Go.Proofs.YtdcldaknmenklaaGreatDoorW.PrintLast Go.Proofs.YtdcldaknmenklaaGreatDoorW.PrintMore
set_option linter.unusedVariables false
set_option linter.unusedSimpArgs false
set_option maxHeartbeats 1000000 in
set_option maxRecDepth 1000000 in
theorem enc_ascii_calls (k : Nat) (nm : List ByteArray) (hnm : glyph_Names.f k = some nm) (hlen : 95 ≤ nm.length) (w : World) (hG : GW w) :
    Calls Tryz.prog 47 #[] w fun e w' => e = .returned (.agg (namesV (asciiL nm))) ∧ Below w.heap.size w w' := by
  have HN := Aside0.mk hnm
  clear hnm
  have HG := Aside0.mk hG
  clear hG
  go_enter Tryz.func47, Tryz.ntmps47
  go_wp2
  rw [zero_names]
  generalize hzz : namesV (List.replicate 256 noName) = Z
  have hz256 : Z.size = 256 := by rw [← hzz, namesV_size, List.length_replicate]
  have HZ := Aside0.mk hzz
  clear hzz
  have hdrew : ∀ W : World, W.drew.heap = W.heap := fun _ => rfl
  refine start_ (n := 3) (S := fun _ => True) (ds := []) #[false, false, false] (by kernel_rfl) rfl rfl trivial (fun _ => ?_)
  refine pure_ (i := 0) (N := some 2) (v := .slice (some ⟨w.heap.size + 1, 32, none⟩) 95 224) (a' := ?_) #[true, false, false] rfl rfl (by kernel_rfl) (fun _ _ _ h => h) (Or.inl ⟨by rfl, ?_⟩) ?_ ?_
  · intro w'
    go_simp
  rotate_left
  · simp only [Act.put, List.setIfInBounds_toArray, List.set_cons_zero, List.set_cons_succ]
    rfl
  refine one_ (i := 1) (N := some 3) #[true, true, false] rfl rfl (by kernel_rfl) (by decide) (fun K hK => ?_)
  refine call_ 73 #[] rfl rfl ?_ ?_
  · simp only [List.getElem_toArray, List.getElem_cons_succ, List.getElem_cons_zero]
    unfold execOp
    simp only [resolve, invoke, Sem.run_bind, Sem.run_pure, Result.andThen_ok, List.map_toArray, List.map_nil, Act.eval]
    exact enters_ Tryz.func73 rfl rfl #[] _
  refine (glyph_Names.calls k nm _ ((HG.out.alloc _).alloc _).drew HN.out).mono ?_
  rintro e w1 ⟨v0, rfl, hR, hb⟩
  refine ⟨_, rfl, hK.out _ _ trivial (fun _ => ?_)⟩
  clear hK
  have hsz2 : ((w.alloc (Obj.cells Z 73)).alloc (Obj.cells Z 73)).drew.heap.size = w.heap.size + 2 := by
    show ((w.heap.push _).push _).size = _
    simp
  have hg1 : w1.heap[w.heap.size + 1]? = some (.cells Z 73 (0, 0)) :=
    (hb.block (w.heap.size + 1) (by rw [hsz2]; omega)).trans (heap_alloc2_new w _ _)
  have hg0 : w1.heap[w.heap.size]? = some (.cells Z 73 (0, 0)) := by
    refine (hb.block w.heap.size (by rw [hsz2]; omega)).trans ?_
    show ((w.heap.push _).push _)[w.heap.size]? = _
    rw [Array.getElem?_push, if_neg (by simp), Array.getElem?_push_size]
  have hbw : Below w.heap.size w w1 := by
    exact below_step (below_drew (below_alloc (below_alloc (Below.refl _ w) _) _)) hb
  obtain ⟨ROW, hROW⟩ : ∃ R : Array Value, R = namesV (asciiL nm) := ⟨_, rfl⟩
  have hsz : ROW.size = 256 := by rw [hROW, namesV_size, asciiL_length nm hlen]
  have hone : ROW.all (·.oneCell') = true := by rw [hROW]; exact namesV_one _
  refine one_ (i := 2) (N := some 4) #[true, true, true] rfl rfl (by kernel_rfl) (by decide) (fun K hK => ?_)
  rw [if_pos (by rfl)]
  have hrun : ∀ ty, (Builtin.copy_ #[25, 25] ty #[.slice (some ⟨w.heap.size + 1, 32, none⟩) 95 224, v0]).run Tryz.prog w1 = .ok (goInt 95) (w1.setRow (w.heap.size + 1) ROW) := by
    intro ty
    obtain ⟨A, c, rfl⟩ := Kd.R_slice hR
    obtain ⟨-, -, hC⟩ := Kd.R_reads' hR
    obtain ⟨b, o, rfl, hbk, hcell⟩ := strings_read hC (by omega)
    have h95 : ((nm.take 95).map Value.string).length = 95 := by simp; omega
    have := run_copy_row (P := Tryz.prog) w1 25 25 ty 9 (w.heap.size + 1) 32 95 224 ⟨b, o, none⟩ nm.length c Z 73 ((nm.take 95).map Value.string) Tryz.underlying25 (by kernel_rfl) hg1
      (by rw [h95]; exact (Nat.min_eq_right hlen).symm)
      (by
        intro j v hj
        rw [List.getElem?_map] at hj
        obtain ⟨x, hx, rfl⟩ := Option.map_eq_some_iff.1 hj
        have hx' : nm[j]? = some x := by
          rw [List.getElem?_take] at hx
          split at hx
          · exact hx
          · cases hx
        have := hcell j x hx'
        by_cases e0 : j = 0
        · subst e0; simpa [Addr.add] using this
        · simpa [Addr.add, e0] using this)
      (by rw [h95, hz256]; omega)
      (by
        intro v hv
        obtain ⟨x, -, rfl⟩ := List.mem_map.1 hv
        rfl)
    rw [h95] at this
    rw [this, hROW, ← ascii_row nm hlen, HZ.out]
    rfl
  refine Lib.wp_copy_run w1 (.tmp 2) (.tmp 3) 25 25 rfl _ v0 rfl rfl (hrun _) ?_
  refine hK.out _ _ trivial (fun _ => ?_)
  clear hK
  refine norm_ (a' := ?_) ?_ ?_
  rotate_left
  · show Act.put (Act.put _ (some 3) _) (some 4) _ = _
    simp only [Act.put, List.setIfInBounds_toArray, List.set_cons_zero, List.set_cons_succ]
    rfl
  refine done_ (by kernel_rfl) ?_
  have hA : (w1.setRow (w.heap.size + 1) ROW).heap[w.heap.size + 1]? = some (.cells ROW 73 (0, 0)) := setRow_heap w1 _ _ ROW 73 (0, 0) hg1
  have hB : (w1.setRow (w.heap.size + 1) ROW).heap[w.heap.size]? = some (.cells Z 73 (0, 0)) := by
    rw [heap_setRow_ne _ _ _ _ (by omega)]; exact hg0
  have hbw2 : Below w.heap.size w (w1.setRow (w.heap.size + 1) ROW) := below_setRow hbw (by omega) _
  have HROW := Aside0.mk hROW
  have HBW := Aside0.mk hbw2
  clear hROW hrun hbw hbw2 hg0 hg1 hb hR hdrew
  generalize w1.setRow (w.heap.size + 1) ROW = w2 at hA hB HBW ⊢
  go_wp2_with (first | (refine wpList_load_row rfl 73 (.tmp 1) rfl (w.heap.size + 1) rfl 73 ROW (0, 0) _ hA Tryz.underlying73 rfl (by rw [hsz]; kernel_rfl) ?_) | (refine wpList_store_row rfl 73 (.tmp 0) (.tmp 5) rfl w.heap.size ROW rfl rfl 73 _ hB (by rw [hsz]; kernel_rfl) (by rw [hsz]; exact hz256) hone ?_))
  refine bodyPost_ret (v := .agg ROW) ?_ rfl ⟨by rw [HROW.out], below_setRow HBW.out (Nat.le_refl _) _⟩
  exact results_cell_row (fn := Tryz.f47) (p := 0) (ty := 73) rfl _ _ w.heap.size 73 ROW (0, 0) _ rfl (setRow_heap w2 _ _ ROW 73 (0, 0) hB) Tryz.underlying73 rfl (by rw [hsz]; kernel_rfl)
end Go.Proofs.YtdcldaknmenklaaGreatDoor.M
end
section
namespace Go.Proofs.YtdcldaknmenklaaGreatDoor.M
open Go.RowKit Go.Proofs.YtdcldaknmenklaaGreatDoorW.PrintWords
set_option linter.unusedVariables false
def atoiN (a0 : ByteArray) : Option Int := if a0.size ≤ 18 then Lib.atoi a0.data.toList else none
theorem strconv_Atoi_calls (a0 : ByteArray) (r : Int) (w : World) (h : atoiN a0 = some r) :
    Calls Tryz.prog 76 #[.string a0] w fun e w' => e = .returned (.tuple #[.int .i64 r, .nilIface]) ∧ Below w.heap.size w w' := by
  unfold atoiN at h
  split at h
  case isFalse => cases h
  rename_i hb
  refine (Tryz.strconv_Atoi a0 r hb h w).mono ?_
  rintro e w' ⟨rfl, t, rfl⟩
  exact ⟨rfl, bytes_below (Below.refl _ w) (Nat.le_refl _) 5 t⟩
end Go.Proofs.YtdcldaknmenklaaGreatDoor.M
end
section
namespace Go.Proofs.YtdcldaknmenklaaGreatDoor.M
open Go.RowKit Go.Proofs.YtdcldaknmenklaaGreatDoorW.PrintWords Go.Proofs.YtdcldaknmenklaaGreatDoorW.PrintLast Go.Proofs.YtdcldaknmenklaaGreatDoorW.PrintMore
set_option linter.unusedVariables false
set_option linter.unusedSimpArgs false
def putName (n : List ByteArray) (f : ByteArray) : Option (List ByteArray) :=
  (strings_Cut.f f ⟨#[47]⟩).bind fun t => (atoiN t.1).bind fun k => if 0 ≤ k ∧ k < 256 then some (n.set k.toNat t.2.1) else none
def putFields : List ByteArray → List ByteArray → Option (List ByteArray)
  | n, [] => some n
  | n, f :: r => (putName n f).bind fun m => putFields m r
def putLines : List ByteArray → List ByteArray → Option (List ByteArray)
  | n, [] => some n
  | n, l :: r => (strings_Fields.f l).bind fun fs => (putFields n fs).bind fun m => putLines m r
theorem putName_length {n m : List ByteArray} {f : ByteArray} (h : putName n f = some m) : m.length = n.length := by
  unfold putName at h
  obtain ⟨t, -, h⟩ := Option.bind_eq_some_iff.1 h
  obtain ⟨k, -, h⟩ := Option.bind_eq_some_iff.1 h
  split at h
  · obtain rfl := Option.some.inj h; simp
  · cases h
theorem fields_len {a : ByteArray} {r : List ByteArray} (h : strings_Fields.f a = some r) : r.length ≤ 8796093022208 := by
  unfold strings_Fields.f at h
  split at h
  case isFalse => cases h
  rename_i hb
  obtain rfl := Option.some.inj h
  exact hb.2.2
set_option maxHeartbeats 1000000 in
set_option maxRecDepth 1000000 in
theorem enc_with_calls (n : List ByteArray) (hn : n.length = 256) (A0 : Option Addr) (c0 : Nat) (lines r : List ByteArray) (w : World) (hr0 : Kd.C Kd.string w A0 lines.length lines) (hc0 : lines.length ≤ c0) (hll : lines.length ≤ 1000000) (hG : GW w) (h : putLines n lines = some r) :
    Calls Tryz.prog 48 #[.agg (namesV n), .slice A0 lines.length c0] w fun e w' => e = .returned (.agg (namesV r)) ∧ Below w.heap.size w w' := by
  have HR := Aside0.mk hr0
  have HG := Aside0.mk hG
  have HH := Aside0.mk h
  have HN := Aside0.mk hn
  clear hr0 hG h hn
  generalize hV : namesV n = V
  have HV := Aside0.mk hV
  clear hV
  go_enter Tryz.func48, Tryz.ntmps48
  go_wp2
  rw [zero_names]
  generalize hzz : namesV (List.replicate 256 noName) = Z
  have hz256 : Z.size = 256 := by rw [← hzz, namesV_size, List.length_replicate]
  clear hzz
  go_loopw [16] (fun i wr => ∃ (k : Nat) (m : List ByteArray), k ≤ lines.length ∧ i = .int .i64 k ∧ Aside0 (m.length = 256) ∧ Aside0 (putLines m (lines.drop k) = some r) ∧ Aside0 (wr.heap[w.heap.size]? = some (.cells (namesV m) 73 (0, 0))) ∧ Aside0 (wr.heap[w.heap.size + 1]? = some (.cells Z 73 (0, 0))) ∧ Aside0 (Below w.heap.size w wr)) (fun i wr => lines.length - (intOf i).toNat)
  case atStart =>
    refine ⟨0, n, Nat.zero_le _, rfl, HN, ⟨by rw [List.drop_zero]; exact HH.out⟩, ⟨?_⟩, ⟨?_⟩, ⟨below_alloc (below_alloc (Below.refl _ w) _) _⟩⟩
    · rw [HV.out]
      show ((w.heap.push _).push _)[w.heap.size]? = _
      rw [Array.getElem?_push, if_neg (by simp), Array.getElem?_push_size]
    · exact heap_alloc2_new w _ _
  case round =>
    obtain ⟨k, m, hk, rfl, HM, HP, HV0, HZ0, HB⟩ := hrel
    by_cases hlt : k < lines.length
    · obtain ⟨ad, hA, hbk, hcell⟩ := strings_readA HR.out (by omega)
      subst hA
      have hx : wr.cell? (ad.add k) = some (.string lines[k]) := pw_cell_below HB.out (hcell k _ (List.getElem?_eq_getElem hlt))
      have hp := HP.out
      rw [List.drop_eq_getElem_cons hlt, putLines] at hp
      replace hp := Option.bind_eq_some_iff.1 hp
      rcases hp with ⟨fs, hfs, hp⟩
      replace hp := Option.bind_eq_some_iff.1 hp
      rcases hp with ⟨m2, hm2, hp⟩
      generalize lines[k] = line at hx hfs
      have hfl := fields_len hfs
      have HFS := Aside0.mk hfs
      have HM2 := Aside0.mk hm2
      have HP2 := Aside0.mk hp
      clear hfs hm2 hp HP hcell
      have hi1 : (k : Int) < (lines.length : Int) := by omega
      go_wp2_with (go_at_call 74; refine (strings_Fields.calls line fs _ (HG.out.below HB.out) HFS.out).mono ?_)
      rintro e W1 ⟨v0, rfl, hR, hb1⟩
      obtain ⟨A1, c1, rfl⟩ := Kd.R_slice hR
      obtain ⟨-, -, hC1⟩ := Kd.R_reads' hR
      have hwr : w.heap.size + 2 ≤ wr.heap.size := by
        rcases Nat.lt_or_ge (w.heap.size + 1) wr.heap.size with h' | h'
        · omega
        · have := HZ0.out; rw [Array.getElem?_eq_none h'] at this; cases this
      have hrow : 0 < fs.length → ∃ ad1 : Addr, A1 = some ad1 ∧ w.heap.size + 2 ≤ ad1.block ∧ ∀ (j : Nat) x, fs[j]? = some x → W1.cell? (ad1.add j) = some (.string x) := by
        intro h0
        obtain ⟨ad1, e1, -, hc⟩ := strings_readA hC1 h0
        subst e1
        have := Kd.R_base hR ad1.block rfl
        exact ⟨ad1, rfl, by omega, hc⟩
      have HV1 := Aside0.mk ((hb1.block w.heap.size (by omega)).trans HV0.out)
      have HZ1 := Aside0.mk ((hb1.block (w.heap.size + 1) (by omega)).trans HZ0.out)
      have HB1 := Aside0.mk (below_step HB.out hb1)
      have HROW := Aside0.mk hrow
      clear hb1 hR hC1 hrow HV0 HZ0 HB hx
      go_wp2
      go_loopw [23] (fun i ws => ∃ (j : Nat) (m1 : List ByteArray), j ≤ fs.length ∧ i = .int .i64 j ∧ Aside0 (m1.length = 256) ∧ Aside0 (putFields m1 (fs.drop j) = some m2) ∧ Aside0 (ws.heap[w.heap.size]? = some (.cells (namesV m1) 73 (0, 0))) ∧ Aside0 (ws.heap[w.heap.size + 1]? = some (.cells Z 73 (0, 0))) ∧ Aside0 (Below w.heap.size w ws) ∧ Aside0 (0 < fs.length → ∃ ad1 : Addr, A1 = some ad1 ∧ w.heap.size + 2 ≤ ad1.block ∧ ∀ (j : Nat) x, fs[j]? = some x → ws.cell? (ad1.add j) = some (.string x))) (fun i ws => fs.length - (intOf i).toNat)
      case atStart => exact ⟨0, m, Nat.zero_le _, rfl, HM, HM2, HV1, HZ1, HB1, HROW⟩
      case round =>
        clear HV1 HZ1 HB1 HROW HM2 HM
        obtain ⟨j, m1, hj, rfl, HM, HM2, HV1, HZ1, HB1, HROW⟩ := hrel
        by_cases hlj : j < fs.length
        · obtain ⟨ad1, hA1, hb1, hcell⟩ := HROW.out (by omega)
          subst hA1
          have hx := hcell j _ (List.getElem?_eq_getElem hlj)
          have hp := HM2.out
          rw [List.drop_eq_getElem_cons hlj, putFields] at hp
          replace hp := Option.bind_eq_some_iff.1 hp
          rcases hp with ⟨m3, hm3, hp⟩
          generalize fs[j] = fld at hx hm3
          unfold putName at hm3
          replace hm3 := Option.bind_eq_some_iff.1 hm3
          rcases hm3 with ⟨⟨c, nm, bb⟩, hcut, hm3⟩
          replace hm3 := Option.bind_eq_some_iff.1 hm3
          rcases hm3 with ⟨z, hz, hm3⟩
          simp only at hz hm3
          split at hm3
          case isFalse => cases hm3
          rename_i hz01
          replace hm3 := Option.some.inj hm3
          subst hm3
          have hq0 := hz01.1
          have hq := hz01.2
          have HCUT := Aside0.mk hcut
          have HZQ := Aside0.mk hz
          have HP3 := Aside0.mk hp
          have HCELL := Aside0.mk hcell
          clear hcut hz hp hz01 HM2 hcell
          have hj1 : (j : Int) < (fs.length : Int) := by omega
          go_wp2_with fail
          have hwr2 : w.heap.size + 2 ≤ wr.heap.size := by
            rcases Nat.lt_or_ge (w.heap.size + 1) wr.heap.size with h' | h'
            · omega
            · have := HZ1.out; rw [Array.getElem?_eq_none h'] at this; cases this
          with_reducible refine (strings_Cut.calls fld _ c nm bb _ (HG.out.below HB1.out) HCUT.out).mono ?_
          rintro e W2 ⟨rfl, hb2⟩
          have HV2 := Aside0.mk ((hb2.block w.heap.size (by omega)).trans HV1.out)
          have HZ2 := Aside0.mk ((hb2.block (w.heap.size + 1) (by omega)).trans HZ1.out)
          have HB2 := Aside0.mk (below_step HB1.out hb2)
          have HROW2 := Aside0.mk (fun j x hh => pw_cell_below hb2 (HCELL.out j x hh))
          have hwr3 : w.heap.size + 2 ≤ W2.heap.size := Nat.le_trans hwr2 hb2.size
          clear HV1 HZ1 HB1 hx hb2 HCELL
          go_wp2_with fail
          with_reducible refine (strconv_Atoi_calls c z _ HZQ.out).mono ?_
          rintro e W3 ⟨rfl, hb3⟩
          have HV3 := Aside0.mk ((hb3.block w.heap.size (by omega)).trans HV2.out)
          have HZ3 := Aside0.mk ((hb3.block (w.heap.size + 1) (by omega)).trans HZ2.out)
          have HB3 := Aside0.mk (below_step HB2.out hb3)
          have HROW3 := Aside0.mk (fun j x hh => pw_cell_below hb3 (HROW2.out j x hh))
          clear HV2 HZ2 HB2 hb3 HROW2
          obtain ⟨q, rfl⟩ := Int.eq_ofNat_of_zero_le hq0
          rw [Int.toNat_natCast] at HP3
          obtain ⟨hc3, hf3⟩ := names_cell HV3.out (q := q) (by rw [HM.out]; omega)
          go_wp2
          go_roundw
          case rel =>
            refine ⟨j + 1, m1.set q nm, by omega, by go_num, ⟨by rw [List.length_set]; exact HM.out⟩, HP3, ⟨names_set nm HV3.out⟩, ⟨(heap_setCell_other _ _ _ _ (by show w.heap.size + 1 ≠ w.heap.size; omega)).trans HZ3.out⟩, ⟨HB3.out.setCell (Nat.le_refl _) _⟩, ⟨fun _ => ⟨ad1, rfl, hb1, ?_⟩⟩⟩
            intro j' x hh
            rw [cell_set_other _ _ _ _ _ (by have e : (ad1.add j').block = ad1.block := by unfold Addr.add; split <;> rfl
                                             rw [e]; omega)]
            exact HROW3.out j' x hh
          case measure => simp [intOf]; omega
        · have hjl : j = fs.length := by omega
          subst hjl
          have hp := HM2.out
          rw [List.drop_length, putFields] at hp
          replace hp := Option.some.inj hp
          subst hp
          clear HM2
          go_wp2
          go_roundw
          case rel =>
            exact ⟨k + 1, m1, by omega, by go_num, HM, HP2, HV1, HZ1, HB1⟩
          case measure => simp [intOf]; omega
    · have hkl : k = lines.length := by omega
      subst hkl
      have hp := HP.out
      rw [List.drop_length, putLines] at hp
      replace hp := Option.some.inj hp
      subst hp
      clear HP HR
      have hVs : (namesV m).size = 256 := by rw [namesV_size]; exact HM.out
      have hone : (namesV m).all (·.oneCell') = true := namesV_one _
      generalize hROW : namesV m = ROW at hVs hone
      have HVR : Aside0 (wr.heap[w.heap.size]? = some (.cells ROW 73 (0, 0))) := ⟨by rw [← hROW]; exact HV0.out⟩
      have HROW := Aside0.mk hROW
      clear hROW HV0
      go_wp2_with (first | (refine wpList_load_row rfl 73 (.tmp 2) rfl w.heap.size rfl 73 ROW (0, 0) _ HVR.out Tryz.underlying73 rfl (by rw [hVs]; kernel_rfl) ?_) | (refine wpList_store_row rfl 73 (.tmp 4) (.tmp 43) rfl (w.heap.size + 1) ROW rfl rfl 73 _ HZ0.out (by rw [hVs]; kernel_rfl) (by rw [hz256, hVs]) hone ?_))
      refine bodyPost_ret (v := .agg ROW) ?_ rfl ⟨by rw [HROW.out], below_setRow HB.out (by omega) _⟩
      exact results_cell_row (fn := Tryz.f48) (p := 4) (ty := 73) rfl _ _ (w.heap.size + 1) 73 ROW (0, 0) _ rfl (setRow_heap wr _ _ ROW 73 (0, 0) HZ0.out) Tryz.underlying73 rfl (by rw [hVs]; kernel_rfl)
end Go.Proofs.YtdcldaknmenklaaGreatDoor.M
end
