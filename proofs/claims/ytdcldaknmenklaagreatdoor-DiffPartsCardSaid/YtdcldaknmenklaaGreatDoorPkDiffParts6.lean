/- Packed by this session's program hbpack.py out of this claim's own texts (Q30, Q15, Q35, Q189, Q187, Q23, Q9): the same declarations, without those that the claim does not use. -/
import Derived.Test.YtdcldaknmenklaaGreatDoorPkDiffParts5
import Derived.Lib.AppendIntMem
import Derived.Laws.BitsLemmas
section
/- Laid by this session's program hbprint.py out of the translation: the function hornbook/diff.entries and its contract. -/
namespace Go.Proofs.YtdcldaknmenklaaGreatDoor.M
open Go.RowKit Go.Proofs.YtdcldaknmenklaaGreatDoorW.PrintWords Go.Proofs.YtdcldaknmenklaaGreatDoorW.PrintLast Go.Proofs.YtdcldaknmenklaaGreatDoorW.PrintMore
attribute [local go_sem] max2_int min2_int max_two min_two max_three min_three max_four min_four
set_option linter.unusedVariables false
set_option linter.unusedSimpArgs false
def diff_entries.l0 : Nat → List (S65) → List (S32) → Option ((List (S32)) × (List (S65)))
  | 0, _, _ => none
  | k + 1, x0, x4 => if (x0.length : Int) > 0 then (if 0 < (x0.length : Int) then (if ((rd_T65 x0 0).f0) = 1 then (if x4.length < 4398046511104 then (if 1 ≤ (x0.length : Int) then (diff_entries.l0 k (x0.drop 1) (x4 ++ [(⟨true, (rd_T65 x0 0).f2, (⟨#[]⟩ : ByteArray)⟩ : S32)])) else (none)) else (none)) else (if ((rd_T65 x0 0).f0) = 2 then (if x4.length < 4398046511104 then (if 1 ≤ (x0.length : Int) then (diff_entries.l0 k (x0.drop 1) (x4 ++ [(⟨false, 0, (rd_T65 x0 0).f3⟩ : S32)])) else (none)) else (none)) else (some (x4, x0)))) else (none)) else (some (x4, x0))
def diff_entries.f (k : Nat) (l0 : List (S65)) : Option ((List (S32)) × (List (S65))) := diff_entries.l0 k l0 ([] : List (S32))
theorem diff_entries.mono_l : ∀ k, (∀ y0 y1, LeO (diff_entries.l0 k y0 y1) (diff_entries.l0 (k + 1) y0 y1))
  | 0 => fun _ _ r h => by simp [diff_entries.l0] at h
  | k + 1 => by
    have ih0 := diff_entries.mono_l k
    · intro y0 y1
      unfold diff_entries.l0
      repeat' first
      | (with_reducible exact ih0 _ _)
      | (with_reducible exact LeO.refl _)
      | (with_reducible exact LeO.none _)
      | (with_reducible refine LeO.ite ?_ ?_)
      | (with_reducible refine LeO.bind ?_ (fun _ => ?_))
      | exact ih0 _ _
      | exact LeO.none _
      | refine LeO.ite ?_ ?_
      | refine LeO.bind ?_ (fun _ => ?_)
theorem diff_entries.mono : ∀ a0 k, LeO (diff_entries.f k a0) (diff_entries.f (k + 1) a0) := by
  intro a0 k
  have ih0 := diff_entries.mono_l k
  unfold diff_entries.f
  repeat' first
      | (with_reducible exact ih0 _ _)
      | (with_reducible exact LeO.refl _)
      | (with_reducible exact LeO.none _)
      | (with_reducible refine LeO.ite ?_ ?_)
      | (with_reducible refine LeO.bind ?_ (fun _ => ?_))
      | exact ih0 _ _
      | exact LeO.none _
      | refine LeO.ite ?_ ?_
      | refine LeO.bind ?_ (fun _ => ?_)
set_option maxHeartbeats 8000000 in
set_option maxRecDepth 100000 in
theorem diff_entries.calls (k : Nat) (P0_ : Nat → Prop) (A0 : Option Addr) (c0 : Nat) (l0 : List (S65)) (r1 : List (S32)) (r2 : List (S65)) (w : World) (hs0 : Kd.V k65 65 w w.heap.size (fun k_ => P0_ k_) (.slice A0 l0.length c0) l0) (h : diff_entries.f k l0 = some (r1, r2)) :
    Calls Tryz.prog 30 #[.slice A0 l0.length c0] w fun e w' => ∃ v0_ v1_ : Value, e = .returned (.tuple #[v0_, v1_]) ∧ Kd.R k32 32 w' w.heap.size (fun k_ => (w.heap.size ≤ k_)) v0_ r1 ∧ Kd.V k65 65 w' w.heap.size (fun k_ => (P0_ k_ ∨ w.heap.size ≤ k_) ∧ some k_ ≠ (v0_ : Value).ownBlock) v1_ r2 ∧ Below w.heap.size w w' := by
  have hu65 := Tryz.underlying65
  have hu32 := Tryz.underlying32
  have HO0 := Aside0.mk (show Kd.V k65 65 w w.heap.size (fun k_ => (P0_ k_ ∨ w.heap.size ≤ k_)) (.slice A0 l0.length c0) l0 from Kd.V_mono hs0 (fun k_ hk => .inl hk))
  have HB := Aside0.mk (Below.refl w.heap.size w)
  have H : (diff_entries.l0 k l0 ([] : List (S32))) = some (r1, r2) := h
  clear h
  have H' := Aside0.mk H
  clear H
  go_enter Tryz.func30, Tryz.ntmps30
  go_wp2
  go_loopg [0, 4] k (fun kq v0 v4 w' => ∃ (x0_1 : List (S65)) (x4_1 : List (S32)), Aside0 (diff_entries.l0 kq x0_1 x4_1 = some (r1, r2)) ∧ Aside0 (kq ≤ k) ∧ Aside0 (Kd.V k65 65 w' w.heap.size (fun k_ => (P0_ k_ ∨ w.heap.size ≤ k_) ∧ some k_ ≠ (v4 : Value).ownBlock) v0 x0_1) ∧ Aside0 (Kd.R k32 32 w' w.heap.size (fun k_ => (w.heap.size ≤ k_)) v4 x4_1) ∧ Aside0 (Below w.heap.size w w'))
  case atStart => exact ⟨(l0), (([] : List (S32))), H', ⟨Nat.le_refl _⟩, ⟨by (with_reducible repeat (first | apply Kd.V_alloc | apply Kd.V_drewN | apply Kd.V_drew)); exact Kd.V_mono HO0.out (fun _ hk => ⟨hk, (by simp [Value.ownBlock])⟩)⟩, ⟨by first | exact Kd.R_nil _ _ _ _ _ | exact Kd.N_nil _ _ _ _ _ | exact Kd.V_nil _ _ _ _ _ | exact Kd.Q_nil _ _ _ _ _ | exact Kd.S_nil _ _ _ _ _⟩, ⟨by repeat (first | (with_reducible first | exact HB.out | apply below_alloc | apply pw_below_drewN | apply below_drew1) | exact HB.out)⟩⟩
  case round =>
    clear H'
    obtain ⟨x0_1, x4_1, HA, HK1, HO_0, HO_4, HB⟩ := hrel
    cases gk with
    | zero => exact absurd HA.out (by simp [diff_entries.l0])
    | succ k1 =>
      have H := HA.out
      clear HA
      simp only [diff_entries.l0] at H
      by_cases c2 : (x0_1.length : Int) > 0
      · rw [if_pos c2] at H
        have c2b0 : decide (0 < (x0_1.length : Int)) = true := decide_eq_true c2
        have c2b1 : decide (0 < x0_1.length) = true := decide_eq_true (by omega)
        clear c2
        by_cases c3 : 0 < (x0_1.length : Int)
        · rw [if_pos c3] at H
          have c3b0 : decide (0 < (x0_1.length : Int)) = true := decide_eq_true c3
          have c3b1 : decide (0 < x0_1.length) = true := decide_eq_true (by omega)
          clear c3
          by_cases c4 : ((rd_T65 x0_1 0).f0) = 1
          · rw [if_pos c4] at H
            have c4b0 : (((rd_T65 x0_1 0).f0) == 1) = true := beq_iff_eq.mpr c4
            have c4b1 : (((rd_T65 x0_1 0).f0) != 1) = false := bne_eq_false_iff_eq.mpr c4
            clear c4
            by_cases c5 : x4_1.length < 4398046511104
            · rw [if_pos c5] at H
              have LMc5 := Aside0.mk c5
              clear c5
              obtain ⟨y258, hy258⟩ : ∃ y_ : List (S32), y_ = (x4_1 ++ [(⟨true, (rd_T65 x0_1 0).f2, (⟨#[]⟩ : ByteArray)⟩ : S32)]) := ⟨_, rfl⟩
              replace H : (if 1 ≤ (x0_1.length : Int) then (diff_entries.l0 k1 (x0_1.drop 1) y258) else (none)) = some (r1, r2) := by first | (rw [hy258]; with_reducible exact H) | (have H2_ := (Option.bind_some _ _).symm.trans H; rw [hy258]; with_reducible exact H2_) | (have H2_ := (Option.bind_some _ _).symm.trans H; with_reducible exact H2_) | with_reducible exact H | (rw [hy258]; exact H) | exact H
              have Ny258 := Aside0.mk hy258
              clear hy258
              by_cases c6 : 1 ≤ (x0_1.length : Int)
              · rw [if_pos c6] at H
                have c6b0 := eq_true c6
                have c6b1 : decide (1 ≤ (x0_1.length : Int)) = true := decide_eq_true c6
                clear c6
                obtain ⟨y261, hy261⟩ : ∃ y_ : List (S65), y_ = (x0_1.drop 1) := ⟨_, rfl⟩
                replace H : (diff_entries.l0 k1 y261 y258) = some (r1, r2) := by first | (rw [hy261]; with_reducible exact H) | (have H2_ := (Option.bind_some _ _).symm.trans H; rw [hy261]; with_reducible exact H2_) | (have H2_ := (Option.bind_some _ _).symm.trans H; with_reducible exact H2_) | with_reducible exact H | (rw [hy261]; exact H) | exact H
                have Ny261 := Aside0.mk hy261
                clear hy261
                have H' := Aside0.mk H
                clear H
                obtain ⟨Ao7, co7, eo7⟩ := Kd.V_slice HO_0.out
                subst eo7
                have p256 : 0 ≤ (0 : Int) := (by omega)
                have q256 : 0 < (x0_1.length : Int) := of_decide_eq_true (by first | (with_reducible assumption) | assumption)
                obtain ⟨ad256, e256, hx256_0, hx256_1, hx256_2, hx256_3⟩ := at_T65 (Kd.V_reads' HO_0.out).2.2 0 p256 q256
                cases e256
                have qi256 : (0 < x0_1.length) = True := eq_true (by omega)
                (try rw [show ((0 : Int)).toNat = 0 from rfl] at hx256_0)
                (try rw [show 0 * 4 = 0 from rfl] at hx256_0)
                (try rw [Addr.add_zero'] at hx256_0)
                (try rw [show ((0 : Int)).toNat = 0 from rfl] at hx256_1)
                (try rw [show 0 * 4 = 0 from rfl] at hx256_1)
                (try rw [Addr.add_zero'] at hx256_1)
                (try rw [show ((0 : Int)).toNat = 0 from rfl] at hx256_2)
                (try rw [show 0 * 4 = 0 from rfl] at hx256_2)
                (try rw [Addr.add_zero'] at hx256_2)
                (try rw [show ((0 : Int)).toNat = 0 from rfl] at hx256_3)
                (try rw [show 0 * 4 = 0 from rfl] at hx256_3)
                (try rw [Addr.add_zero'] at hx256_3)
                replace p256 := eq_true p256
                replace q256 := eq_true q256
                go_wp2_with (first | ((with_reducible refine gate_dst (N := 5) rfl ?_); refine box_event ?hg (N := 5) ?hd (cs := #[.int .i64 0, .int .i64 0, .int .i64 0, .string (⟨#[]⟩ : ByteArray)]) (t := 65) ?hr ?_; (case hd => rfl); (case hg => rfl); (case hr => first | (go_simp; done) | (go_simp; rfl)); intro gb257 hg w8 hbox hb; have n0_ := Aside0.mk (Kd.V_below (Kd.V_elderB (by (with_reducible repeat (first | apply Kd.V_alloc | apply Kd.V_drewN | apply Kd.V_drew)); exact HO_0.out) gb257 (Nat.le_of_eq hg.symm)) hb); have n1_ := Aside0.mk (Kd.R_below (by (with_reducible repeat (first | apply Kd.R_alloc | apply Kd.R_drewN | apply Kd.R_drew)); exact HO_4.out) hb); have n2_ := Aside0.mk (below_step (by repeat (first | (with_reducible first | exact HB.out | apply below_alloc | apply pw_below_drewN | apply below_drew1) | exact HB.out)) hb); have n3_ := Aside0.mk (hbox); have n4_ := Aside0.mk ((by rw [hg]; exact (below_size (by repeat (first | (with_reducible first | exact HB.out | apply below_alloc | apply pw_below_drewN | apply below_drew1) | exact HB.out))) : w.heap.size ≤ gb257)); have n5_ := Aside0.mk ((by rw [hg]; exact (below_size (by repeat (first | (with_reducible first | exact HB.out | apply below_alloc | apply pw_below_drewN | apply below_drew1) | exact HB.out))) : w.heap.size ≤ gb257)); clear HO_0; clear HO_4; clear HB; have HO_0 := n0_; have HO_4 := n1_; have HB := n2_; have BK257 := n3_; have GW257 := n4_; have GE257 := n5_; clear n0_ n1_ n2_ n3_ n4_ n5_; clear hb hbox hg; have hcz9_0 : w8.cell? ⟨gb257, 0, none⟩ = some (.int .i64 0) := (blk_cell BK257.out 0).trans rfl; have hcz9_1 : w8.cell? ⟨gb257, 1, none⟩ = some (.int .i64 0) := (blk_cell BK257.out 1).trans rfl; have hcz9_2 : w8.cell? ⟨gb257, 2, none⟩ = some (.int .i64 0) := (blk_cell BK257.out 2).trans rfl; have hcz9_3 : w8.cell? ⟨gb257, 3, none⟩ = some (.string (⟨#[]⟩ : ByteArray)) := (blk_cell BK257.out 3).trans rfl; have hfz9_0 := blk_frozen BK257.out 0; have hfz9_1 := blk_frozen BK257.out 1; have hfz9_2 := blk_frozen BK257.out 2; have hfz9_3 := blk_frozen BK257.out 3) | ((with_reducible refine gate_builtin (b := .append) (xs := #[.tmp 18, .tmp 22]) rfl ?_); at_builtin; refine Kd.R_append k32 (w0 := w) w.heap.size rfl (.tmp 18) (.tmp 22) 29 32 (.agg #[(.bool false), (.int .i64 0), (.string ⟨#[]⟩)]) 32 rfl Tryz.underlying29 info32 rfl (by decide) (by omega) u4 x4_1 (⟨true, (rd_T65 x0_1 0).f2, (⟨#[]⟩ : ByteArray)⟩ : S32) [.bool true, .int .i64 ((rd_T65 x0_1 0).f2), .string (⟨#[]⟩ : ByteArray)] (fun k_ => (w.heap.size ≤ k_)) (fun _ => False) rfl (by first | (go_simp; done) | (go_simp; rfl)) ?aP (fun _ hk => hk.elim) ?aF ?aO ?aB ?aS ?aL ?_; (case aP => exact k32_mkM _ _ _ (⟨true, (rd_T65 x0_1 0).f2, (⟨#[]⟩ : ByteArray)⟩ : S32)); (case aB => exact (by repeat (first | (with_reducible first | exact HB.out | apply below_alloc | apply pw_below_drewN | apply below_drew1 | refine below_set ?_ GE257.out) | exact HB.out))); (case aF => exact (fun k_ hk => (Nat.le_trans (below_size (by repeat (first | (with_reducible first | exact HB.out | apply below_alloc | apply pw_below_drewN | apply below_drew1 | refine below_set ?_ GE257.out) | exact HB.out))) hk))); (case aO => exact (by (with_reducible repeat (first | apply Kd.R_alloc | apply Kd.R_drewN | apply Kd.R_drew)); exact Kd.R_mono (Kd.R_far (p := ⟨gb257, 3, none⟩) (Kd.R_far (p := ⟨gb257, 2, none⟩) (Kd.R_far (p := ⟨gb257, 1, none⟩) (Kd.R_far (p := ⟨gb257, 0, none⟩) (Kd.R_types HO_4.out BK257.out (by decide)) (fun _ hk => hk.2) (.int .i64 ((rd_T65 x0_1 0).f0))) (fun _ hk => hk.2) (.int .i64 ((rd_T65 x0_1 0).f1))) (fun _ hk => hk.2) (.int .i64 ((rd_T65 x0_1 0).f2))) (fun _ hk => hk.2) (.string ((rd_T65 x0_1 0).f3))) (fun _ hk => hk.1))); (case aS => exact (below_size (by repeat (first | (with_reducible first | exact HB.out | apply below_alloc | apply pw_below_drewN | apply below_drew1 | refine below_set ?_ GE257.out) | exact HB.out)))); (case aL => have := LMc5.out; omega); intro v259 w10 ho hb hg hat; rw [← Ny258.out] at ho; have n0_ := Aside0.mk (Kd.V_afterv (ok := (fun k_ => (P0_ k_ ∨ w.heap.size ≤ k_) ∧ k_ ≠ gb257)) (by (with_reducible repeat (first | apply Kd.V_alloc | apply Kd.V_drewN | apply Kd.V_drew)); exact Kd.V_mono (Kd.V_far (p := ⟨gb257, 3, none⟩) (Kd.V_far (p := ⟨gb257, 2, none⟩) (Kd.V_far (p := ⟨gb257, 1, none⟩) (Kd.V_far (p := ⟨gb257, 0, none⟩) (Kd.V_mono HO_0.out (fun k_ hk => (⟨hk, hk.2⟩ : _ ∧ k_ ≠ gb257))) (fun _ hk => hk.2) (.int .i64 ((rd_T65 x0_1 0).f0))) (fun _ hk => hk.2) (.int .i64 ((rd_T65 x0_1 0).f1))) (fun _ hk => hk.2) (.int .i64 ((rd_T65 x0_1 0).f2))) (fun _ hk => hk.2) (.string ((rd_T65 x0_1 0).f3))) (fun _ hk => ⟨⟨hk.1.1.1, hk.1.2⟩, hk.1.1.2⟩)) hg hat); have n1_ := Aside0.mk (blk_grown (g := gb257) (o := .cells #[.int .i64 ((rd_T65 x0_1 0).f0), .int .i64 ((rd_T65 x0_1 0).f1), .int .i64 ((rd_T65 x0_1 0).f2), .string ((rd_T65 x0_1 0).f3)] 65 (0, 0)) (by (with_reducible repeat (first | refine blk_drewN ?_ _ | refine blk_drew ?_ | refine blk_alloc ?_ _)); refine blk_put (cs := #[.int .i64 ((rd_T65 x0_1 0).f0), .int .i64 ((rd_T65 x0_1 0).f1), .int .i64 ((rd_T65 x0_1 0).f2), .string (⟨#[]⟩ : ByteArray)]) ?_ 3 _ rfl; (with_reducible repeat (first | refine blk_drewN ?_ _ | refine blk_drew ?_ | refine blk_alloc ?_ _)); refine blk_put (cs := #[.int .i64 ((rd_T65 x0_1 0).f0), .int .i64 ((rd_T65 x0_1 0).f1), .int .i64 0, .string (⟨#[]⟩ : ByteArray)]) ?_ 2 _ rfl; (with_reducible repeat (first | refine blk_drewN ?_ _ | refine blk_drew ?_ | refine blk_alloc ?_ _)); refine blk_put (cs := #[.int .i64 ((rd_T65 x0_1 0).f0), .int .i64 0, .int .i64 0, .string (⟨#[]⟩ : ByteArray)]) ?_ 1 _ rfl; (with_reducible repeat (first | refine blk_drewN ?_ _ | refine blk_drew ?_ | refine blk_alloc ?_ _)); refine blk_put (cs := #[.int .i64 0, .int .i64 0, .int .i64 0, .string (⟨#[]⟩ : ByteArray)]) ?_ 0 _ rfl; (with_reducible repeat (first | refine blk_drewN ?_ _ | refine blk_drew ?_ | refine blk_alloc ?_ _)); exact BK257.out) hg (Kd.R_ne HO_4.out BK257.out (by decide))); have n2_ := Aside0.mk (hb); have n3_ := Aside0.mk (ho); clear HO_0; clear BK257; clear HB; clear HO_4; have HO_0 := n0_; have BK257 := n1_; have HB := n2_; have HO260 := n3_; clear n0_ n1_ n2_ n3_; clear ho hb hg hat; have q11 : (1 : Int) ≤ ((x0_1.length : Int) : Int) := of_decide_eq_true (by first | (with_reducible assumption) | assumption); obtain ⟨i011, hi011, _, hsz11, _⟩ := info_parts info65; have hroom11 : x0_1.length ≤ co7 := (Kd.V_reads' HO_0.out).2.1; have hC11 : Kd.F k65 _ _ (some ad256) x0_1.length x0_1 := (Kd.V_at (base := w.heap.size) HO_0.out).2.2; have hcut11 := cut_from (P := Tryz.prog) 61 65 .i64 Tryz.underlying61 hi011 4 hsz11 (some ad256) x0_1.length co7 1 (by omega) q11; have hr11 := Kd.F_cut (m := (1 : Int).toNat) (c := co7) hC11 (by omega) hroom11; obtain ⟨A11, hA11⟩ : ∃ A1, A1 = (if co7 = (1 : Int).toNat then (some ad256) else ((some ad256) : Option Addr).map (·.add ((1 : Int).toNat * 4))) := ⟨_, rfl⟩; obtain ⟨c11, hc11⟩ : ∃ c1, c1 = co7 - (1 : Int).toNat := ⟨_, rfl⟩; have hy11 : y261.length = x0_1.length - (1 : Int).toNat := (by rw [Ny261.out, List.length_drop] <;> omega); rw [show (x0_1).drop (1 : Int).toNat = y261 from Ny261.out.symm] at hr11; replace hr11 : Kd.F k65 _ _ A11 y261.length y261 := (by rw [hA11]; exact hr11); rw [← hy11, ← hA11, ← hc11] at hcut11; have HO265 := Aside0.mk (show Kd.V k65 65 _ w.heap.size _ (.slice A11 y261.length c11) y261 from Kd.V_mk (by rw [hy11, hc11]; exact Nat.sub_le_sub_right hroom11 _) hr11); have HC265 := Aside0.mk (show y261.length ≤ c11 from by rw [hy11, hc11]; exact Nat.sub_le_sub_right hroom11 _); clear hr11 hC11 hroom11 hi011 hsz11 hc11; have KY11 := Aside0.mk hy11; have KA11 := Aside0.mk hA11; clear hy11 hA11; replace q11 := eq_true q11))
                go_roundg k1
                case measure => have := HK1.out; omega
                case rel => exact ⟨(y261), (y258), H', ⟨by have := HK1.out; omega⟩, ⟨by (with_reducible repeat (first | apply Kd.V_alloc | apply Kd.V_drewN | apply Kd.V_drew)); exact Kd.V_mono HO265.out (fun _ hk => ⟨hk.1.1, hk.2⟩)⟩, ⟨by (with_reducible repeat (first | apply Kd.R_alloc | apply Kd.R_drewN | apply Kd.R_drew)); exact HO260.out⟩, ⟨by repeat (first | (with_reducible first | exact HB.out | apply below_alloc | apply pw_below_drewN | apply below_drew1 | refine below_set ?_ GE257.out) | exact HB.out)⟩⟩
              · rw [if_neg c6] at H
                exact absurd H (by simp)
            · rw [if_neg c5] at H
              exact absurd H (by simp)
          · rw [if_neg c4] at H
            have c4b0 : (((rd_T65 x0_1 0).f0) == 1) = false := beq_eq_false_iff_ne.mpr c4
            have c4b1 : (((rd_T65 x0_1 0).f0) != 1) = true := bne_iff_ne.mpr c4
            by_cases c12 : ((rd_T65 x0_1 0).f0) = 2
            · rw [if_pos c12] at H
              have c12b0 : (((rd_T65 x0_1 0).f0) == 2) = true := beq_iff_eq.mpr c12
              have c12b1 : (((rd_T65 x0_1 0).f0) != 2) = false := bne_eq_false_iff_eq.mpr c12
              clear c12
              by_cases c13 : x4_1.length < 4398046511104
              · rw [if_pos c13] at H
                have LMc13 := Aside0.mk c13
                clear c13
                obtain ⟨y266, hy266⟩ : ∃ y_ : List (S32), y_ = (x4_1 ++ [(⟨false, 0, (rd_T65 x0_1 0).f3⟩ : S32)]) := ⟨_, rfl⟩
                replace H : (if 1 ≤ (x0_1.length : Int) then (diff_entries.l0 k1 (x0_1.drop 1) y266) else (none)) = some (r1, r2) := by first | (rw [hy266]; with_reducible exact H) | (have H2_ := (Option.bind_some _ _).symm.trans H; rw [hy266]; with_reducible exact H2_) | (have H2_ := (Option.bind_some _ _).symm.trans H; with_reducible exact H2_) | with_reducible exact H | (rw [hy266]; exact H) | exact H
                have Ny266 := Aside0.mk hy266
                clear hy266
                by_cases c14 : 1 ≤ (x0_1.length : Int)
                · rw [if_pos c14] at H
                  have c14b0 := eq_true c14
                  have c14b1 : decide (1 ≤ (x0_1.length : Int)) = true := decide_eq_true c14
                  clear c14
                  obtain ⟨y269, hy269⟩ : ∃ y_ : List (S65), y_ = (x0_1.drop 1) := ⟨_, rfl⟩
                  replace H : (diff_entries.l0 k1 y269 y266) = some (r1, r2) := by first | (rw [hy269]; with_reducible exact H) | (have H2_ := (Option.bind_some _ _).symm.trans H; rw [hy269]; with_reducible exact H2_) | (have H2_ := (Option.bind_some _ _).symm.trans H; with_reducible exact H2_) | with_reducible exact H | (rw [hy269]; exact H) | exact H
                  have Ny269 := Aside0.mk hy269
                  clear hy269
                  have H' := Aside0.mk H
                  clear H
                  obtain ⟨Ao15, co15, eo15⟩ := Kd.V_slice HO_0.out
                  subst eo15
                  have p256 : 0 ≤ (0 : Int) := (by omega)
                  have q256 : 0 < (x0_1.length : Int) := of_decide_eq_true (by first | (with_reducible assumption) | assumption)
                  obtain ⟨ad256, e256, hx256_0, hx256_1, hx256_2, hx256_3⟩ := at_T65 (Kd.V_reads' HO_0.out).2.2 0 p256 q256
                  cases e256
                  have qi256 : (0 < x0_1.length) = True := eq_true (by omega)
                  (try rw [show ((0 : Int)).toNat = 0 from rfl] at hx256_0)
                  (try rw [show 0 * 4 = 0 from rfl] at hx256_0)
                  (try rw [Addr.add_zero'] at hx256_0)
                  (try rw [show ((0 : Int)).toNat = 0 from rfl] at hx256_1)
                  (try rw [show 0 * 4 = 0 from rfl] at hx256_1)
                  (try rw [Addr.add_zero'] at hx256_1)
                  (try rw [show ((0 : Int)).toNat = 0 from rfl] at hx256_2)
                  (try rw [show 0 * 4 = 0 from rfl] at hx256_2)
                  (try rw [Addr.add_zero'] at hx256_2)
                  (try rw [show ((0 : Int)).toNat = 0 from rfl] at hx256_3)
                  (try rw [show 0 * 4 = 0 from rfl] at hx256_3)
                  (try rw [Addr.add_zero'] at hx256_3)
                  replace p256 := eq_true p256
                  replace q256 := eq_true q256
                  go_wp2_with (first | ((with_reducible refine gate_dst (N := 5) rfl ?_); refine box_event ?hg (N := 5) ?hd (cs := #[.int .i64 0, .int .i64 0, .int .i64 0, .string (⟨#[]⟩ : ByteArray)]) (t := 65) ?hr ?_; (case hd => rfl); (case hg => rfl); (case hr => first | (go_simp; done) | (go_simp; rfl)); intro gb257 hg w16 hbox hb; have n0_ := Aside0.mk (Kd.V_below (Kd.V_elderB (by (with_reducible repeat (first | apply Kd.V_alloc | apply Kd.V_drewN | apply Kd.V_drew)); exact HO_0.out) gb257 (Nat.le_of_eq hg.symm)) hb); have n1_ := Aside0.mk (Kd.R_below (by (with_reducible repeat (first | apply Kd.R_alloc | apply Kd.R_drewN | apply Kd.R_drew)); exact HO_4.out) hb); have n2_ := Aside0.mk (below_step (by repeat (first | (with_reducible first | exact HB.out | apply below_alloc | apply pw_below_drewN | apply below_drew1) | exact HB.out)) hb); have n3_ := Aside0.mk (hbox); have n4_ := Aside0.mk ((by rw [hg]; exact (below_size (by repeat (first | (with_reducible first | exact HB.out | apply below_alloc | apply pw_below_drewN | apply below_drew1) | exact HB.out))) : w.heap.size ≤ gb257)); have n5_ := Aside0.mk ((by rw [hg]; exact (below_size (by repeat (first | (with_reducible first | exact HB.out | apply below_alloc | apply pw_below_drewN | apply below_drew1) | exact HB.out))) : w.heap.size ≤ gb257)); clear HO_0; clear HO_4; clear HB; have HO_0 := n0_; have HO_4 := n1_; have HB := n2_; have BK257 := n3_; have GW257 := n4_; have GE257 := n5_; clear n0_ n1_ n2_ n3_ n4_ n5_; clear hb hbox hg; have hcz17_0 : w16.cell? ⟨gb257, 0, none⟩ = some (.int .i64 0) := (blk_cell BK257.out 0).trans rfl; have hcz17_1 : w16.cell? ⟨gb257, 1, none⟩ = some (.int .i64 0) := (blk_cell BK257.out 1).trans rfl; have hcz17_2 : w16.cell? ⟨gb257, 2, none⟩ = some (.int .i64 0) := (blk_cell BK257.out 2).trans rfl; have hcz17_3 : w16.cell? ⟨gb257, 3, none⟩ = some (.string (⟨#[]⟩ : ByteArray)) := (blk_cell BK257.out 3).trans rfl; have hfz17_0 := blk_frozen BK257.out 0; have hfz17_1 := blk_frozen BK257.out 1; have hfz17_2 := blk_frozen BK257.out 2; have hfz17_3 := blk_frozen BK257.out 3) | ((with_reducible refine gate_builtin (b := .append) (xs := #[.tmp 26, .tmp 30]) rfl ?_); at_builtin; refine Kd.R_append k32 (w0 := w) w.heap.size rfl (.tmp 26) (.tmp 30) 29 32 (.agg #[(.bool false), (.int .i64 0), (.string ⟨#[]⟩)]) 32 rfl Tryz.underlying29 info32 rfl (by decide) (by omega) u4 x4_1 (⟨false, 0, (rd_T65 x0_1 0).f3⟩ : S32) [.bool false, .int .i64 0, .string ((rd_T65 x0_1 0).f3)] (fun k_ => (w.heap.size ≤ k_)) (fun _ => False) rfl (by first | (go_simp; done) | (go_simp; rfl)) ?aP (fun _ hk => hk.elim) ?aF ?aO ?aB ?aS ?aL ?_; (case aP => exact k32_mkM _ _ _ (⟨false, 0, (rd_T65 x0_1 0).f3⟩ : S32)); (case aB => exact (by repeat (first | (with_reducible first | exact HB.out | apply below_alloc | apply pw_below_drewN | apply below_drew1 | refine below_set ?_ GE257.out) | exact HB.out))); (case aF => exact (fun k_ hk => (Nat.le_trans (below_size (by repeat (first | (with_reducible first | exact HB.out | apply below_alloc | apply pw_below_drewN | apply below_drew1 | refine below_set ?_ GE257.out) | exact HB.out))) hk))); (case aO => exact (by (with_reducible repeat (first | apply Kd.R_alloc | apply Kd.R_drewN | apply Kd.R_drew)); exact Kd.R_mono (Kd.R_far (p := ⟨gb257, 3, none⟩) (Kd.R_far (p := ⟨gb257, 2, none⟩) (Kd.R_far (p := ⟨gb257, 1, none⟩) (Kd.R_far (p := ⟨gb257, 0, none⟩) (Kd.R_types HO_4.out BK257.out (by decide)) (fun _ hk => hk.2) (.int .i64 ((rd_T65 x0_1 0).f0))) (fun _ hk => hk.2) (.int .i64 ((rd_T65 x0_1 0).f1))) (fun _ hk => hk.2) (.int .i64 ((rd_T65 x0_1 0).f2))) (fun _ hk => hk.2) (.string ((rd_T65 x0_1 0).f3))) (fun _ hk => hk.1))); (case aS => exact (below_size (by repeat (first | (with_reducible first | exact HB.out | apply below_alloc | apply pw_below_drewN | apply below_drew1 | refine below_set ?_ GE257.out) | exact HB.out)))); (case aL => have := LMc13.out; omega); intro v267 w18 ho hb hg hat; rw [← Ny266.out] at ho; have n0_ := Aside0.mk (Kd.V_afterv (ok := (fun k_ => (P0_ k_ ∨ w.heap.size ≤ k_) ∧ k_ ≠ gb257)) (by (with_reducible repeat (first | apply Kd.V_alloc | apply Kd.V_drewN | apply Kd.V_drew)); exact Kd.V_mono (Kd.V_far (p := ⟨gb257, 3, none⟩) (Kd.V_far (p := ⟨gb257, 2, none⟩) (Kd.V_far (p := ⟨gb257, 1, none⟩) (Kd.V_far (p := ⟨gb257, 0, none⟩) (Kd.V_mono HO_0.out (fun k_ hk => (⟨hk, hk.2⟩ : _ ∧ k_ ≠ gb257))) (fun _ hk => hk.2) (.int .i64 ((rd_T65 x0_1 0).f0))) (fun _ hk => hk.2) (.int .i64 ((rd_T65 x0_1 0).f1))) (fun _ hk => hk.2) (.int .i64 ((rd_T65 x0_1 0).f2))) (fun _ hk => hk.2) (.string ((rd_T65 x0_1 0).f3))) (fun _ hk => ⟨⟨hk.1.1.1, hk.1.2⟩, hk.1.1.2⟩)) hg hat); have n1_ := Aside0.mk (blk_grown (g := gb257) (o := .cells #[.int .i64 ((rd_T65 x0_1 0).f0), .int .i64 ((rd_T65 x0_1 0).f1), .int .i64 ((rd_T65 x0_1 0).f2), .string ((rd_T65 x0_1 0).f3)] 65 (0, 0)) (by (with_reducible repeat (first | refine blk_drewN ?_ _ | refine blk_drew ?_ | refine blk_alloc ?_ _)); refine blk_put (cs := #[.int .i64 ((rd_T65 x0_1 0).f0), .int .i64 ((rd_T65 x0_1 0).f1), .int .i64 ((rd_T65 x0_1 0).f2), .string (⟨#[]⟩ : ByteArray)]) ?_ 3 _ rfl; (with_reducible repeat (first | refine blk_drewN ?_ _ | refine blk_drew ?_ | refine blk_alloc ?_ _)); refine blk_put (cs := #[.int .i64 ((rd_T65 x0_1 0).f0), .int .i64 ((rd_T65 x0_1 0).f1), .int .i64 0, .string (⟨#[]⟩ : ByteArray)]) ?_ 2 _ rfl; (with_reducible repeat (first | refine blk_drewN ?_ _ | refine blk_drew ?_ | refine blk_alloc ?_ _)); refine blk_put (cs := #[.int .i64 ((rd_T65 x0_1 0).f0), .int .i64 0, .int .i64 0, .string (⟨#[]⟩ : ByteArray)]) ?_ 1 _ rfl; (with_reducible repeat (first | refine blk_drewN ?_ _ | refine blk_drew ?_ | refine blk_alloc ?_ _)); refine blk_put (cs := #[.int .i64 0, .int .i64 0, .int .i64 0, .string (⟨#[]⟩ : ByteArray)]) ?_ 0 _ rfl; (with_reducible repeat (first | refine blk_drewN ?_ _ | refine blk_drew ?_ | refine blk_alloc ?_ _)); exact BK257.out) hg (Kd.R_ne HO_4.out BK257.out (by decide))); have n2_ := Aside0.mk (hb); have n3_ := Aside0.mk (ho); clear HO_0; clear BK257; clear HB; clear HO_4; have HO_0 := n0_; have BK257 := n1_; have HB := n2_; have HO268 := n3_; clear n0_ n1_ n2_ n3_; clear ho hb hg hat; have q19 : (1 : Int) ≤ ((x0_1.length : Int) : Int) := of_decide_eq_true (by first | (with_reducible assumption) | assumption); obtain ⟨i019, hi019, _, hsz19, _⟩ := info_parts info65; have hroom19 : x0_1.length ≤ co15 := (Kd.V_reads' HO_0.out).2.1; have hC19 : Kd.F k65 _ _ (some ad256) x0_1.length x0_1 := (Kd.V_at (base := w.heap.size) HO_0.out).2.2; have hcut19 := cut_from (P := Tryz.prog) 61 65 .i64 Tryz.underlying61 hi019 4 hsz19 (some ad256) x0_1.length co15 1 (by omega) q19; have hr19 := Kd.F_cut (m := (1 : Int).toNat) (c := co15) hC19 (by omega) hroom19; obtain ⟨A19, hA19⟩ : ∃ A1, A1 = (if co15 = (1 : Int).toNat then (some ad256) else ((some ad256) : Option Addr).map (·.add ((1 : Int).toNat * 4))) := ⟨_, rfl⟩; obtain ⟨c19, hc19⟩ : ∃ c1, c1 = co15 - (1 : Int).toNat := ⟨_, rfl⟩; have hy19 : y269.length = x0_1.length - (1 : Int).toNat := (by rw [Ny269.out, List.length_drop] <;> omega); rw [show (x0_1).drop (1 : Int).toNat = y269 from Ny269.out.symm] at hr19; replace hr19 : Kd.F k65 _ _ A19 y269.length y269 := (by rw [hA19]; exact hr19); rw [← hy19, ← hA19, ← hc19] at hcut19; have HO273 := Aside0.mk (show Kd.V k65 65 _ w.heap.size _ (.slice A19 y269.length c19) y269 from Kd.V_mk (by rw [hy19, hc19]; exact Nat.sub_le_sub_right hroom19 _) hr19); have HC273 := Aside0.mk (show y269.length ≤ c19 from by rw [hy19, hc19]; exact Nat.sub_le_sub_right hroom19 _); clear hr19 hC19 hroom19 hi019 hsz19 hc19; have KY19 := Aside0.mk hy19; have KA19 := Aside0.mk hA19; clear hy19 hA19; replace q19 := eq_true q19))
                  go_roundg k1
                  case measure => have := HK1.out; omega
                  case rel => exact ⟨(y269), (y266), H', ⟨by have := HK1.out; omega⟩, ⟨by (with_reducible repeat (first | apply Kd.V_alloc | apply Kd.V_drewN | apply Kd.V_drew)); exact Kd.V_mono HO273.out (fun _ hk => ⟨hk.1.1, hk.2⟩)⟩, ⟨by (with_reducible repeat (first | apply Kd.R_alloc | apply Kd.R_drewN | apply Kd.R_drew)); exact HO268.out⟩, ⟨by repeat (first | (with_reducible first | exact HB.out | apply below_alloc | apply pw_below_drewN | apply below_drew1 | refine below_set ?_ GE257.out) | exact HB.out)⟩⟩
                · rw [if_neg c14] at H
                  exact absurd H (by simp)
              · rw [if_neg c13] at H
                exact absurd H (by simp)
            · rw [if_neg c12] at H
              have c12b0 : (((rd_T65 x0_1 0).f0) == 2) = false := beq_eq_false_iff_ne.mpr c12
              have c12b1 : (((rd_T65 x0_1 0).f0) != 2) = true := bne_iff_ne.mpr c12
              simp only [Option.some.injEq, Prod.mk.injEq] at H
              obtain ⟨rfl, rfl⟩ := H
              obtain ⟨Ao20, co20, eo20⟩ := Kd.V_slice HO_0.out
              subst eo20
              have p256 : 0 ≤ (0 : Int) := (by omega)
              have q256 : 0 < (x0_1.length : Int) := of_decide_eq_true (by first | (with_reducible assumption) | assumption)
              obtain ⟨ad256, e256, hx256_0, hx256_1, hx256_2, hx256_3⟩ := at_T65 (Kd.V_reads' HO_0.out).2.2 0 p256 q256
              cases e256
              have qi256 : (0 < x0_1.length) = True := eq_true (by omega)
              (try rw [show ((0 : Int)).toNat = 0 from rfl] at hx256_0)
              (try rw [show 0 * 4 = 0 from rfl] at hx256_0)
              (try rw [Addr.add_zero'] at hx256_0)
              (try rw [show ((0 : Int)).toNat = 0 from rfl] at hx256_1)
              (try rw [show 0 * 4 = 0 from rfl] at hx256_1)
              (try rw [Addr.add_zero'] at hx256_1)
              (try rw [show ((0 : Int)).toNat = 0 from rfl] at hx256_2)
              (try rw [show 0 * 4 = 0 from rfl] at hx256_2)
              (try rw [Addr.add_zero'] at hx256_2)
              (try rw [show ((0 : Int)).toNat = 0 from rfl] at hx256_3)
              (try rw [show 0 * 4 = 0 from rfl] at hx256_3)
              (try rw [Addr.add_zero'] at hx256_3)
              replace p256 := eq_true p256
              replace q256 := eq_true q256
              go_wp2_with (first | ((with_reducible refine gate_dst (N := 5) rfl ?_); refine box_event ?hg (N := 5) ?hd (cs := #[.int .i64 0, .int .i64 0, .int .i64 0, .string (⟨#[]⟩ : ByteArray)]) (t := 65) ?hr ?_; (case hd => rfl); (case hg => rfl); (case hr => first | (go_simp; done) | (go_simp; rfl)); intro gb257 hg w21 hbox hb; have n0_ := Aside0.mk (Kd.V_below (Kd.V_elderB (by (with_reducible repeat (first | apply Kd.V_alloc | apply Kd.V_drewN | apply Kd.V_drew)); exact HO_0.out) gb257 (Nat.le_of_eq hg.symm)) hb); have n1_ := Aside0.mk (Kd.R_below (by (with_reducible repeat (first | apply Kd.R_alloc | apply Kd.R_drewN | apply Kd.R_drew)); exact HO_4.out) hb); have n2_ := Aside0.mk (below_step (by repeat (first | (with_reducible first | exact HB.out | apply below_alloc | apply pw_below_drewN | apply below_drew1) | exact HB.out)) hb); have n3_ := Aside0.mk (hbox); have n4_ := Aside0.mk ((by rw [hg]; exact (below_size (by repeat (first | (with_reducible first | exact HB.out | apply below_alloc | apply pw_below_drewN | apply below_drew1) | exact HB.out))) : w.heap.size ≤ gb257)); have n5_ := Aside0.mk ((by rw [hg]; exact (below_size (by repeat (first | (with_reducible first | exact HB.out | apply below_alloc | apply pw_below_drewN | apply below_drew1) | exact HB.out))) : w.heap.size ≤ gb257)); clear HO_0; clear HO_4; clear HB; have HO_0 := n0_; have HO_4 := n1_; have HB := n2_; have BK257 := n3_; have GW257 := n4_; have GE257 := n5_; clear n0_ n1_ n2_ n3_ n4_ n5_; clear hb hbox hg; have hcz22_0 : w21.cell? ⟨gb257, 0, none⟩ = some (.int .i64 0) := (blk_cell BK257.out 0).trans rfl; have hcz22_1 : w21.cell? ⟨gb257, 1, none⟩ = some (.int .i64 0) := (blk_cell BK257.out 1).trans rfl; have hcz22_2 : w21.cell? ⟨gb257, 2, none⟩ = some (.int .i64 0) := (blk_cell BK257.out 2).trans rfl; have hcz22_3 : w21.cell? ⟨gb257, 3, none⟩ = some (.string (⟨#[]⟩ : ByteArray)) := (blk_cell BK257.out 3).trans rfl; have hfz22_0 := blk_frozen BK257.out 0; have hfz22_1 := blk_frozen BK257.out 1; have hfz22_2 := blk_frozen BK257.out 2; have hfz22_3 := blk_frozen BK257.out 3))
              go_ret2
              exact ⟨_, _, by first | rfl | (simp [errW_none, errW_some] <;> rfl) | (simp [*, errW_none, errW_some] <;> rfl), by (with_reducible repeat (first | apply Kd.R_alloc | apply Kd.R_drewN | apply Kd.R_drew)); exact Kd.R_mono (Kd.R_far (p := ⟨gb257, 3, none⟩) (Kd.R_far (p := ⟨gb257, 2, none⟩) (Kd.R_far (p := ⟨gb257, 1, none⟩) (Kd.R_far (p := ⟨gb257, 0, none⟩) (Kd.R_types HO_4.out BK257.out (by decide)) (fun _ hk => hk.2) (.int .i64 ((rd_T65 x0_1 0).f0))) (fun _ hk => hk.2) (.int .i64 ((rd_T65 x0_1 0).f1))) (fun _ hk => hk.2) (.int .i64 ((rd_T65 x0_1 0).f2))) (fun _ hk => hk.2) (.string ((rd_T65 x0_1 0).f3))) (fun _ hk => hk.1), by (with_reducible repeat (first | apply Kd.V_alloc | apply Kd.V_drewN | apply Kd.V_drew)); exact Kd.V_mono (Kd.V_far (p := ⟨gb257, 3, none⟩) (Kd.V_far (p := ⟨gb257, 2, none⟩) (Kd.V_far (p := ⟨gb257, 1, none⟩) (Kd.V_far (p := ⟨gb257, 0, none⟩) (Kd.V_mono HO_0.out (fun k_ hk => (⟨hk, hk.2⟩ : _ ∧ k_ ≠ gb257))) (fun _ hk => hk.2) (.int .i64 ((rd_T65 x0_1 0).f0))) (fun _ hk => hk.2) (.int .i64 ((rd_T65 x0_1 0).f1))) (fun _ hk => hk.2) (.int .i64 ((rd_T65 x0_1 0).f2))) (fun _ hk => hk.2) (.string ((rd_T65 x0_1 0).f3))) (fun _ hk => ⟨hk.1.1.1, hk.1.1.2⟩), by repeat (first | (with_reducible first | exact HB.out | apply below_alloc | apply pw_below_drewN | apply below_drew1 | refine below_set ?_ GE257.out) | exact HB.out)⟩
        · rw [if_neg c3] at H
          exact absurd H (by simp)
      · rw [if_neg c2] at H
        have c2b0 : decide (0 < (x0_1.length : Int)) = false := decide_eq_false c2
        have c2b1 : decide (0 < x0_1.length) = false := decide_eq_false (by omega)
        clear c2
        simp only [Option.some.injEq, Prod.mk.injEq] at H
        obtain ⟨rfl, rfl⟩ := H
        obtain ⟨Ao23, co23, eo23⟩ := Kd.V_slice HO_0.out
        subst eo23
        go_wp2
        go_ret2
        exact ⟨_, _, by first | rfl | (simp [errW_none, errW_some] <;> rfl) | (simp [*, errW_none, errW_some] <;> rfl), by (with_reducible repeat (first | apply Kd.R_alloc | apply Kd.R_drewN | apply Kd.R_drew)); exact HO_4.out, by (with_reducible repeat (first | apply Kd.V_alloc | apply Kd.V_drewN | apply Kd.V_drew)); exact HO_0.out, by repeat (first | (with_reducible first | exact HB.out | apply below_alloc | apply pw_below_drewN | apply below_drew1) | exact HB.out)⟩
end Go.Proofs.YtdcldaknmenklaaGreatDoor.M
end
section
namespace Go.Proofs.YtdcldaknmenklaaGreatDoor.M
open Go.RowKit Go.Proofs.YtdcldaknmenklaaGreatDoorW.PrintWords Go.Proofs.YtdcldaknmenklaaGreatDoorW.PrintLast Go.Proofs.YtdcldaknmenklaaGreatDoorW.PrintMore
set_option linter.unusedVariables false
set_option linter.unusedSimpArgs false
def parseRest (size : Int) (z : List S32 × List S65) : List S32 × Int × Int :=
  match z.2 with
  | [] => ([], size, 2)
  | y :: r => if y.f0 = 7 then (match r with | [] => (z.1, size, 0) | u :: _ => ([], u.f1, 3)) else ([], y.f1, 3)
def diff_Parse.f (k : Nat) (a0 : ByteArray) : Option (List S32 × Int × Int) :=
  (tok_All.f k a0).bind fun y => if y.2.2 = 0 then (match y.1 with
    | [] => some ([], (a0.size : Int), 2)
    | x :: l => if x.f0 = 6 then (diff_entries.f k l).bind fun z => some (parseRest (a0.size : Int) z) else some ([], x.f1, 3)) else some ([], y.2.1, y.2.2)
theorem diff_Parse.mono : ∀ a0 k, LeO (diff_Parse.f k a0) (diff_Parse.f (k + 1) a0) := by
  intro a0 k
  unfold diff_Parse.f
  refine LeO.bind (tok_All.mono _ _) (fun y => LeO.ite ?_ (LeO.refl _))
  cases y.1 with
  | nil => exact LeO.refl _
  | cons x l => exact LeO.ite (LeO.bind (diff_entries.mono _ _) (fun _ => LeO.refl _)) (LeO.refl _)
theorem rd_zero (x : S65) (l : List S65) : rd_T65 (x :: l) 0 = x := rfl
theorem rd_one (x y : S65) (l : List S65) : rd_T65 (x :: y :: l) 1 = y := rfl
set_option maxHeartbeats 4000000 in
set_option maxRecDepth 1000000 in
theorem diff_Parse.calls (k : Nat) (a0 : ByteArray) (r1 : List S32) (r2 r3 : Int) (w : World) (hG : GW w) (h : diff_Parse.f k a0 = some (r1, r2, r3)) :
    Calls Tryz.prog 15 #[.string a0] w fun e w' => ∃ v0_ : Value, e = .returned (.tuple #[v0_, .int .i64 r2, .int .i64 r3]) ∧ Kd.R k32 32 w' w.heap.size (fun _ => True) v0_ r1 ∧ Below w.heap.size w w' := by
  have huE := Tryz.underlying32
  have huT := Tryz.underlying65
  unfold diff_Parse.f at h
  obtain ⟨⟨l, p, e⟩, hA, h⟩ := Option.bind_eq_some_iff.1 h
  dsimp only at h
  have HA := Aside0.mk hA
  have HG := Aside0.mk hG
  clear hA hG
  by_cases he : e = 0
  · subst he
    rw [if_pos rfl] at h
    rcases l with _ | ⟨x, l⟩
    · have hR := Option.some.inj h
      clear h
      injection hR with e1 hR
      injection hR with e2 e3
      subst e1 e2 e3
      go_enter Tryz.func15, Tryz.ntmps15
      go_wp2_with (go_at_call 29; refine (tok_All.calls k a0 _ _ _ _ HG.out HA.out).mono ?_; rintro ev W1 ⟨v0, rfl, ho, hb⟩; obtain ⟨A1, c1, eo⟩ := Kd.R_slice ho; subst eo; have HO := Aside0.mk ho; have HB := Aside0.mk hb; clear ho hb)
      go_ret3
      exact ⟨_, rfl, Kd.R_nil _ _ _ _ _, HB.out⟩
    have hlen1 : ((((x :: l).length : Nat) : Int) == 0) = false := by rw [beq_eq_false_iff_ne, List.length_cons]; omega
    by_cases h6 : x.f0 = 6
    · dsimp only at h
      rw [if_pos h6] at h
      obtain ⟨⟨z1, z2⟩, hE, h⟩ := Option.bind_eq_some_iff.1 h
      have hR := Option.some.inj h
      clear h
      have HE := Aside0.mk hE
      clear hE
      have h6b : (x.f0 != 6) = false := bne_eq_false_iff_eq.2 h6
      have h6c : (x.f0 == 6) = true := beq_iff_eq.2 h6
      unfold parseRest at hR
      dsimp only at hR
      rcases z2 with _ | ⟨y, z2⟩
      · dsimp only at hR
        injection hR with e1 hR
        injection hR with e2 e3
        subst e1 e2 e3
        go_enter Tryz.func15, Tryz.ntmps15
        go_wp2_with (first | (go_at_call 29; refine (tok_All.calls k a0 _ _ _ _ HG.out HA.out).mono ?_; rintro ev W1 ⟨v0, rfl, ho, hb⟩; obtain ⟨A1, c1, eo⟩ := Kd.R_slice ho; subst eo; have HO := Aside0.mk ho; have HB := Aside0.mk hb; clear ho hb; obtain ⟨ad1, ea1, hx0, hx1, hx2, hx3⟩ := at_T65 (Kd.R_reads' HO.out).2.2 0 (by omega) (by rw [List.length_cons]; omega); subst ea1; rw [rd_zero] at hx0 hx1 hx2 hx3; simp only [Int.toNat_zero, Nat.zero_mul, Addr.add_zero'] at hx0 hx1 hx2 hx3; have hlp : ((0 : Int) < (((x :: l).length : Nat) : Int)) = True := eq_true (by rw [List.length_cons]; omega); obtain ⟨i0_, hi0_, _, hsz0_, _⟩ := info_parts info65; have hroom_ := (Kd.R_reads' HO.out).2.1; have hcut := cut_from (P := Tryz.prog) 61 65 .i64 Tryz.underlying61 hi0_ 4 hsz0_ (some ad1) (x :: l).length c1 1 (by omega) (by rw [List.length_cons]; omega); have hF_ := Kd.F_cut (m := (1 : Int).toNat) (c := c1) (Kd.R_F HO.out) (by rw [List.length_cons]; simp) hroom_; obtain ⟨A2, hA2⟩ : ∃ A2, A2 = (if c1 = (1 : Int).toNat then (some ad1) else ((some ad1) : Option Addr).map (·.add ((1 : Int).toNat * 4))) := ⟨_, rfl⟩; obtain ⟨c2, hc2⟩ : ∃ c2, c2 = c1 - (1 : Int).toNat := ⟨_, rfl⟩; have hy_ : l.length = (x :: l).length - (1 : Int).toNat := (by rw [List.length_cons]; simp); rw [← hy_, ← hA2, ← hc2] at hcut; have HV := Aside0.mk (show Kd.V k65 65 W1 W1.heap.size (fun _ => True) (.slice A2 l.length c2) l from Kd.V_mk (by rw [hy_, hc2]; exact Nat.sub_le_sub_right hroom_ _) (by rw [hA2]; exact hF_)); clear hF_ hroom_ hi0_ hsz0_ hc2 hA2 hy_; (try rw [List.length_cons] at hcut)) | (go_at_call 30; refine (diff_entries.calls k (fun _ => True) A2 c2 l _ _ _ HV.out HE.out).mono ?_; rintro ev W2 ⟨v2, v3, rfl, ho2, hv3, hb2⟩; obtain ⟨A3, c3, eo3⟩ := Kd.V_slice hv3; subst eo3; have HB2 := Aside0.mk (below_step HB.out hb2); have HO2 := Aside0.mk (Kd.R_mono (ok' := fun _ => True) (Kd.R_lower ho2 (below_size HB.out)) (fun _ _ => trivial)); have HV3 := Aside0.mk hv3; clear ho2 hv3 hb2))
        repeat (go_quiet (fail); try go_wp2)
        go_ret3
        exact ⟨_, rfl, Kd.R_nil _ _ _ _ _, (by repeat (first | exact HB2.out | apply pw_below_drewN))⟩
      dsimp only at hR
      have hlen2 : ((((y :: z2).length : Nat) : Int) == 0) = false := by rw [beq_eq_false_iff_ne, List.length_cons]; omega
      have hlp2 : ((0 : Int) < (((y :: z2).length : Nat) : Int)) = True := eq_true (by rw [List.length_cons]; omega)
      by_cases h7 : y.f0 = 7
      · rw [if_pos h7] at hR
        have h7b : (y.f0 != 7) = false := bne_eq_false_iff_eq.2 h7
        rcases z2 with _ | ⟨u, z2⟩
        · dsimp only at hR
          injection hR with e1 hR
          injection hR with e2 e3
          subst e1 e2 e3
          go_enter Tryz.func15, Tryz.ntmps15
          go_wp2_with (first | (go_at_call 29; refine (tok_All.calls k a0 _ _ _ _ HG.out HA.out).mono ?_; rintro ev W1 ⟨v0, rfl, ho, hb⟩; obtain ⟨A1, c1, eo⟩ := Kd.R_slice ho; subst eo; have HO := Aside0.mk ho; have HB := Aside0.mk hb; clear ho hb; obtain ⟨ad1, ea1, hx0, hx1, hx2, hx3⟩ := at_T65 (Kd.R_reads' HO.out).2.2 0 (by omega) (by rw [List.length_cons]; omega); subst ea1; rw [rd_zero] at hx0 hx1 hx2 hx3; simp only [Int.toNat_zero, Nat.zero_mul, Addr.add_zero'] at hx0 hx1 hx2 hx3; have hlp : ((0 : Int) < (((x :: l).length : Nat) : Int)) = True := eq_true (by rw [List.length_cons]; omega); obtain ⟨i0_, hi0_, _, hsz0_, _⟩ := info_parts info65; have hroom_ := (Kd.R_reads' HO.out).2.1; have hcut := cut_from (P := Tryz.prog) 61 65 .i64 Tryz.underlying61 hi0_ 4 hsz0_ (some ad1) (x :: l).length c1 1 (by omega) (by rw [List.length_cons]; omega); have hF_ := Kd.F_cut (m := (1 : Int).toNat) (c := c1) (Kd.R_F HO.out) (by rw [List.length_cons]; simp) hroom_; obtain ⟨A2, hA2⟩ : ∃ A2, A2 = (if c1 = (1 : Int).toNat then (some ad1) else ((some ad1) : Option Addr).map (·.add ((1 : Int).toNat * 4))) := ⟨_, rfl⟩; obtain ⟨c2, hc2⟩ : ∃ c2, c2 = c1 - (1 : Int).toNat := ⟨_, rfl⟩; have hy_ : l.length = (x :: l).length - (1 : Int).toNat := (by rw [List.length_cons]; simp); rw [← hy_, ← hA2, ← hc2] at hcut; have HV := Aside0.mk (show Kd.V k65 65 W1 W1.heap.size (fun _ => True) (.slice A2 l.length c2) l from Kd.V_mk (by rw [hy_, hc2]; exact Nat.sub_le_sub_right hroom_ _) (by rw [hA2]; exact hF_)); clear hF_ hroom_ hi0_ hsz0_ hc2 hA2 hy_; (try rw [List.length_cons] at hcut)) | (go_at_call 30; refine (diff_entries.calls k (fun _ => True) A2 c2 l _ _ _ HV.out HE.out).mono ?_; rintro ev W2 ⟨v2, v3, rfl, ho2, hv3, hb2⟩; obtain ⟨A3, c3, eo3⟩ := Kd.V_slice hv3; subst eo3; have HB2 := Aside0.mk (below_step HB.out hb2); have HO2 := Aside0.mk (Kd.R_mono (ok' := fun _ => True) (Kd.R_lower ho2 (below_size HB.out)) (fun _ _ => trivial)); have HV3 := Aside0.mk hv3; clear ho2 hv3 hb2; obtain ⟨ad3, ea3, hy0, hy1, hy2, hy3⟩ := at_T65 (Kd.V_reads' HV3.out).2.2 0 (by omega) (by rw [List.length_cons]; omega); subst ea3; rw [rd_zero] at hy0 hy1 hy2 hy3; simp only [Int.toNat_zero, Nat.zero_mul, Addr.add_zero'] at hy0 hy1 hy2 hy3))
          repeat (go_quiet (fail); try go_wp2)
          go_ret3
          exact ⟨_, rfl, HO2.out, (by repeat (first | exact HB2.out | apply pw_below_drewN))⟩
        · dsimp only at hR
          have hlp4 : ((1 : Int) < (z2.length : Int) + 1 + 1) = True := eq_true (by omega)
          have hlp5 : ((1 : Int) < (((y :: u :: z2).length : Nat) : Int)) = True := eq_true (by rw [List.length_cons, List.length_cons]; omega)
          injection hR with e1 hR
          injection hR with e2 e3
          subst e1 e2 e3
          go_enter Tryz.func15, Tryz.ntmps15
          go_wp2_with (first | (go_at_call 29; refine (tok_All.calls k a0 _ _ _ _ HG.out HA.out).mono ?_; rintro ev W1 ⟨v0, rfl, ho, hb⟩; obtain ⟨A1, c1, eo⟩ := Kd.R_slice ho; subst eo; have HO := Aside0.mk ho; have HB := Aside0.mk hb; clear ho hb; obtain ⟨ad1, ea1, hx0, hx1, hx2, hx3⟩ := at_T65 (Kd.R_reads' HO.out).2.2 0 (by omega) (by rw [List.length_cons]; omega); subst ea1; rw [rd_zero] at hx0 hx1 hx2 hx3; simp only [Int.toNat_zero, Nat.zero_mul, Addr.add_zero'] at hx0 hx1 hx2 hx3; have hlp : ((0 : Int) < (((x :: l).length : Nat) : Int)) = True := eq_true (by rw [List.length_cons]; omega); obtain ⟨i0_, hi0_, _, hsz0_, _⟩ := info_parts info65; have hroom_ := (Kd.R_reads' HO.out).2.1; have hcut := cut_from (P := Tryz.prog) 61 65 .i64 Tryz.underlying61 hi0_ 4 hsz0_ (some ad1) (x :: l).length c1 1 (by omega) (by rw [List.length_cons]; omega); have hF_ := Kd.F_cut (m := (1 : Int).toNat) (c := c1) (Kd.R_F HO.out) (by rw [List.length_cons]; simp) hroom_; obtain ⟨A2, hA2⟩ : ∃ A2, A2 = (if c1 = (1 : Int).toNat then (some ad1) else ((some ad1) : Option Addr).map (·.add ((1 : Int).toNat * 4))) := ⟨_, rfl⟩; obtain ⟨c2, hc2⟩ : ∃ c2, c2 = c1 - (1 : Int).toNat := ⟨_, rfl⟩; have hy_ : l.length = (x :: l).length - (1 : Int).toNat := (by rw [List.length_cons]; simp); rw [← hy_, ← hA2, ← hc2] at hcut; have HV := Aside0.mk (show Kd.V k65 65 W1 W1.heap.size (fun _ => True) (.slice A2 l.length c2) l from Kd.V_mk (by rw [hy_, hc2]; exact Nat.sub_le_sub_right hroom_ _) (by rw [hA2]; exact hF_)); clear hF_ hroom_ hi0_ hsz0_ hc2 hA2 hy_; (try rw [List.length_cons] at hcut)) | (go_at_call 30; refine (diff_entries.calls k (fun _ => True) A2 c2 l _ _ _ HV.out HE.out).mono ?_; rintro ev W2 ⟨v2, v3, rfl, ho2, hv3, hb2⟩; obtain ⟨A3, c3, eo3⟩ := Kd.V_slice hv3; subst eo3; have HB2 := Aside0.mk (below_step HB.out hb2); have HO2 := Aside0.mk (Kd.R_mono (ok' := fun _ => True) (Kd.R_lower ho2 (below_size HB.out)) (fun _ _ => trivial)); have HV3 := Aside0.mk hv3; clear ho2 hv3 hb2; obtain ⟨ad3, ea3, hy0, hy1, hy2, hy3⟩ := at_T65 (Kd.V_reads' HV3.out).2.2 0 (by omega) (by rw [List.length_cons]; omega); subst ea3; rw [rd_zero] at hy0 hy1 hy2 hy3; simp only [Int.toNat_zero, Nat.zero_mul, Addr.add_zero'] at hy0 hy1 hy2 hy3; obtain ⟨ad4, ea4, hu0, hu1, hu2, hu3⟩ := at_T65 (Kd.V_reads' HV3.out).2.2 1 (by omega) (by rw [List.length_cons, List.length_cons]; omega); obtain rfl : ad3 = ad4 := (by injection ea4); rw [rd_one] at hu0 hu1 hu2 hu3; simp only [show ((1 : Int)).toNat = 1 from rfl, Nat.one_mul] at hu0 hu1 hu2 hu3; have hv1 : W2.cell? ⟨ad3.block, ad3.off + 4 + 1, none⟩ = some (.int .i64 u.f1) := (by first | exact hu1 | simpa [Addr.add] using hu1)))
          repeat (go_quiet (fail); try go_wp2)
          go_ret3
          exact ⟨_, rfl, Kd.R_nil _ _ _ _ _, (by repeat (first | exact HB2.out | apply pw_below_drewN))⟩
      · rw [if_neg h7] at hR
        have h7b : (y.f0 != 7) = true := bne_iff_ne.2 h7
        injection hR with e1 hR
        injection hR with e2 e3
        subst e1 e2 e3
        go_enter Tryz.func15, Tryz.ntmps15
        go_wp2_with (first | (go_at_call 29; refine (tok_All.calls k a0 _ _ _ _ HG.out HA.out).mono ?_; rintro ev W1 ⟨v0, rfl, ho, hb⟩; obtain ⟨A1, c1, eo⟩ := Kd.R_slice ho; subst eo; have HO := Aside0.mk ho; have HB := Aside0.mk hb; clear ho hb; obtain ⟨ad1, ea1, hx0, hx1, hx2, hx3⟩ := at_T65 (Kd.R_reads' HO.out).2.2 0 (by omega) (by rw [List.length_cons]; omega); subst ea1; rw [rd_zero] at hx0 hx1 hx2 hx3; simp only [Int.toNat_zero, Nat.zero_mul, Addr.add_zero'] at hx0 hx1 hx2 hx3; have hlp : ((0 : Int) < (((x :: l).length : Nat) : Int)) = True := eq_true (by rw [List.length_cons]; omega); obtain ⟨i0_, hi0_, _, hsz0_, _⟩ := info_parts info65; have hroom_ := (Kd.R_reads' HO.out).2.1; have hcut := cut_from (P := Tryz.prog) 61 65 .i64 Tryz.underlying61 hi0_ 4 hsz0_ (some ad1) (x :: l).length c1 1 (by omega) (by rw [List.length_cons]; omega); have hF_ := Kd.F_cut (m := (1 : Int).toNat) (c := c1) (Kd.R_F HO.out) (by rw [List.length_cons]; simp) hroom_; obtain ⟨A2, hA2⟩ : ∃ A2, A2 = (if c1 = (1 : Int).toNat then (some ad1) else ((some ad1) : Option Addr).map (·.add ((1 : Int).toNat * 4))) := ⟨_, rfl⟩; obtain ⟨c2, hc2⟩ : ∃ c2, c2 = c1 - (1 : Int).toNat := ⟨_, rfl⟩; have hy_ : l.length = (x :: l).length - (1 : Int).toNat := (by rw [List.length_cons]; simp); rw [← hy_, ← hA2, ← hc2] at hcut; have HV := Aside0.mk (show Kd.V k65 65 W1 W1.heap.size (fun _ => True) (.slice A2 l.length c2) l from Kd.V_mk (by rw [hy_, hc2]; exact Nat.sub_le_sub_right hroom_ _) (by rw [hA2]; exact hF_)); clear hF_ hroom_ hi0_ hsz0_ hc2 hA2 hy_; (try rw [List.length_cons] at hcut)) | (go_at_call 30; refine (diff_entries.calls k (fun _ => True) A2 c2 l _ _ _ HV.out HE.out).mono ?_; rintro ev W2 ⟨v2, v3, rfl, ho2, hv3, hb2⟩; obtain ⟨A3, c3, eo3⟩ := Kd.V_slice hv3; subst eo3; have HB2 := Aside0.mk (below_step HB.out hb2); have HO2 := Aside0.mk (Kd.R_mono (ok' := fun _ => True) (Kd.R_lower ho2 (below_size HB.out)) (fun _ _ => trivial)); have HV3 := Aside0.mk hv3; clear ho2 hv3 hb2; obtain ⟨ad3, ea3, hy0, hy1, hy2, hy3⟩ := at_T65 (Kd.V_reads' HV3.out).2.2 0 (by omega) (by rw [List.length_cons]; omega); subst ea3; rw [rd_zero] at hy0 hy1 hy2 hy3; simp only [Int.toNat_zero, Nat.zero_mul, Addr.add_zero'] at hy0 hy1 hy2 hy3))
        repeat (go_quiet (fail); try go_wp2)
        go_ret3
        exact ⟨_, rfl, Kd.R_nil _ _ _ _ _, (by repeat (first | exact HB2.out | apply pw_below_drewN))⟩
    · dsimp only at h
      rw [if_neg h6] at h
      have hR := Option.some.inj h
      clear h
      injection hR with e1 hR
      injection hR with e2 e3
      subst e1 e2 e3
      have h6b : (x.f0 != 6) = true := bne_iff_ne.2 h6
      have h6c : (x.f0 == 6) = false := beq_eq_false_iff_ne.2 h6
      go_enter Tryz.func15, Tryz.ntmps15
      go_wp2_with (go_at_call 29; refine (tok_All.calls k a0 _ _ _ _ HG.out HA.out).mono ?_; rintro ev W1 ⟨v0, rfl, ho, hb⟩; obtain ⟨A1, c1, eo⟩ := Kd.R_slice ho; subst eo; have HO := Aside0.mk ho; have HB := Aside0.mk hb; clear ho hb; obtain ⟨ad1, ea1, hx0, hx1, hx2, hx3⟩ := at_T65 (Kd.R_reads' HO.out).2.2 0 (by omega) (by rw [List.length_cons]; omega); subst ea1; rw [rd_zero] at hx0 hx1 hx2 hx3; simp only [Int.toNat_zero, Nat.zero_mul, Addr.add_zero'] at hx0 hx1 hx2 hx3; have hlp : ((0 : Int) < (((x :: l).length : Nat) : Int)) = True := eq_true (by rw [List.length_cons]; omega))
      repeat (go_quiet (fail); try go_wp2)
      go_ret3
      exact ⟨_, rfl, Kd.R_nil _ _ _ _ _, (by repeat (first | exact HB.out | apply pw_below_drewN))⟩
  · rw [if_neg he] at h
    have hR := Option.some.inj h
    clear h
    injection hR with e1 hR
    injection hR with e2 e3
    subst e1 e2 e3
    have heb : (e != 0) = true := bne_iff_ne.2 he
    have hec : (e == 0) = false := beq_eq_false_iff_ne.2 he
    go_enter Tryz.func15, Tryz.ntmps15
    go_wp2_with (go_at_call 29; refine (tok_All.calls k a0 _ _ _ _ HG.out HA.out).mono ?_; rintro ev W1 ⟨v0, rfl, ho, hb⟩; obtain ⟨A1, c1, eo⟩ := Kd.R_slice ho; subst eo; have HO := Aside0.mk ho; have HB := Aside0.mk hb; clear ho hb)
    go_ret3
    exact ⟨_, rfl, Kd.R_nil _ _ _ _ _, HB.out⟩
end Go.Proofs.YtdcldaknmenklaaGreatDoor.M
end
section
namespace Go.Proofs.YtdcldaknmenklaaGreatDoor.M
open Go.RowKit Go.Proofs.YtdcldaknmenklaaGreatDoorW.PrintWords
set_option linter.unusedVariables false
def strconv_Itoa.f (a0 : Int) : Option ByteArray := if -9223372036854775808 ≤ a0 ∧ a0 ≤ 9223372036854775807 then some ⟨(Lib.itoa a0).toArray⟩ else none
theorem strconv_Itoa.calls (a0 : Int) (r : ByteArray) (w : World) (hG : GW w) (h : strconv_Itoa.f a0 = some r) :
    Calls Tryz.prog 35 #[.int .i64 a0] w fun e w' => e = .returned (.string r) ∧ Below w.heap.size w w' := by
  unfold strconv_Itoa.f at h
  split at h
  case isFalse => cases h
  rename_i hb
  obtain rfl := Option.some.inj h
  refine (Tryz.strconv_Itoa a0 hb.1 hb.2 w hG.pow).mono ?_
  rintro e w' ⟨rfl, k, os, rfl⟩
  exact ⟨rfl, Lib.below_grow _ w (Nat.le_refl _) k os⟩
end Go.Proofs.YtdcldaknmenklaaGreatDoor.M
end
section
namespace Go.Proofs.YtdcldaknmenklaaGreatDoor.M
open Go.RowKit Go.Proofs.YtdcldaknmenklaaGreatDoorW.PrintWords
set_option linter.unusedVariables false
/-- A digit of a number below 16. -/
def hexDig (n : Nat) : UInt8 := if n < 10 then (48 + n).toUInt8 else (55 + n).toUInt8
def hexOf (c : Int) : List UInt8 := [hexDig (c.toNat / 16), hexDig (c.toNat % 16)]
def hexBytes (l : List Int) : List UInt8 := l.flatMap hexOf
def isByte (c : Int) : Bool := decide (0 ≤ c) && decide (c ≤ 255)
def hex_Hex.f (l0 : List Int) : Option ByteArray := if l0.all isByte = true then (if l0.length * 2 ≤ 140737488355328 then some ⟨(hexBytes l0).toArray⟩ else none) else none
theorem hexBytes_length (l : List Int) : (hexBytes l).length = 2 * l.length := by
  induction l with
  | nil => rfl
  | cons c l ih => simp only [hexBytes, List.flatMap_cons, List.length_append] at ih ⊢; rw [ih]; simp [hexOf]; omega
theorem hexBytes_snoc (l : List Int) (i : Nat) (h : i < l.length) : hexBytes (l.take (i + 1)) = hexBytes (l.take i) ++ hexOf (l.getD i 0) := by
  unfold hexBytes
  rw [List.take_succ_eq_append_getElem h, List.flatMap_append]
  simp [List.getD_eq_getElem?_getD, h]
theorem hexAt (n : Nat) (h : n < 16) : (⟨#[48, 49, 50, 51, 52, 53, 54, 55, 56, 57, 65, 66, 67, 68, 69, 70]⟩ : ByteArray)[n]'h = hexDig n := by
  have : ∀ m : Fin 16, (⟨#[48, 49, 50, 51, 52, 53, 54, 55, 56, 57, 65, 66, 67, 68, 69, 70]⟩ : ByteArray)[m.val]'m.isLt = hexDig m.val := by decide
  exact this ⟨n, h⟩
theorem hexCells (l : List Int) (k : Nat) (hk : k < l.length) (c : Int) (hc : rd l k = c) (h0 : 0 ≤ c) (h1 : c ≤ 255) (ha : (c / 16).toNat < 16) (hb : (c % 16).toNat < 16) :
    Lib.byteCells (hexBytes (l.take k)) ++ [.int .u8 ↑((⟨#[48, 49, 50, 51, 52, 53, 54, 55, 56, 57, 65, 66, 67, 68, 69, 70]⟩ : ByteArray)[(c / 16).toNat]'ha).toNat] ++ [.int .u8 ↑((⟨#[48, 49, 50, 51, 52, 53, 54, 55, 56, 57, 65, 66, 67, 68, 69, 70]⟩ : ByteArray)[(c % 16).toNat]'hb).toNat] = Lib.byteCells (hexBytes (l.take (k + 1))) := by
  rw [hexBytes_snoc l k hk, Lib.byteCells_append, hexAt _ ha, hexAt _ hb, List.append_assoc]
  have e : l.getD k 0 = c := by simpa [rd] using hc
  rw [e]
  have e1 : (c / 16).toNat = c.toNat / 16 := by omega
  have e2 : (c % 16).toNat = c.toNat % 16 := by omega
  simp [hexOf, Lib.byteCells, e1, e2]
set_option maxHeartbeats 4000000 in
set_option maxRecDepth 1000000 in
theorem hex_Hex.calls (A0 : Option Addr) (c0 : Nat) (l0 : List Int) (r : ByteArray) (w : World) (hr0 : Kd.C (Kd.int .u8) w A0 l0.length l0) (hc0 : l0.length ≤ c0) (h : hex_Hex.f l0 = some r) :
    Calls Tryz.prog 189 #[.slice A0 l0.length c0] w fun e w' => e = .returned (.string r) ∧ Below w.heap.size w w' := by
  unfold hex_Hex.f at h
  split at h
  case isFalse => cases h
  rename_i hb
  split at h
  case isFalse => cases h
  rename_i hl
  obtain rfl := Option.some.inj h
  clear h
  have HR := Aside0.mk hr0
  have HB := Aside0.mk hb
  clear hr0 hb
  go_enter Tryz.func189, Tryz.ntmps189
  go_wp2
  go_loopw [8] (fun i wr => ∃ k : Nat, k ≤ l0.length ∧ i = .int .i64 k ∧ IsBd w.heap.size w.heap.size (hexBytes (l0.take k)) wr ∧ Below w.heap.size w wr) (fun i wr => l0.length - (intOf i).toNat)
  case atStart => 
    refine ⟨0, Nat.zero_le _, rfl, (Lib.IsBuilderF.of (Lib.fresh_isBuilder _ _ w)), (Below.refl _ w).alloc (Nat.le_refl _) _⟩
  case round =>
    obtain ⟨k, hk, rfl, hI, hbw⟩ := hrel
    by_cases hlt : k < l0.length
    · obtain ⟨ad, e101, hx101⟩ := Kd.at_int HR.out (k : Int) (by omega) (by omega)
      subst e101
      have hx : wr.cell? (ad.add k) = some (.int .u8 (rd l0 k)) := by simpa using pw_cell_below hbw hx101
      obtain ⟨c, hc, h0, h1⟩ : ∃ c, rd l0 k = c ∧ 0 ≤ c ∧ c ≤ 255 := by
        have hm : rd l0 k ∈ l0 := by simp [rd, List.getD_eq_getElem?_getD, hlt]
        have := List.all_eq_true.1 HB.out _ hm
        simp only [isByte, Bool.and_eq_true, decide_eq_true_eq] at this
        exact ⟨_, rfl, this.1, this.2⟩
      have HC := Aside0.mk hc
      rw [hc] at hx
      clear hc hx101
      have hand : Go.bits .and .u8 c 15 = c % 16 := u8_and15 c h0 (by omega)
      go_wp2_with (go_at_call 88; refine (WriteByte_k w.heap.size w.heap.size _ _ _ hI ?_ ?_).mono ?_)
      · rw [Lib.byteCells_length, hexBytes_length, List.length_take]; omega
      · exact hbw.size
      rintro e W1 ⟨rfl, h1, b1, k1⟩
      clear hI
      go_wp2_with (go_at_call 88; refine (WriteByte_k w.heap.size w.heap.size _ _ _ (.inr h1) ?_ ?_).mono ?_)
      · simp only [List.length_append, Lib.byteCells_length, hexBytes_length, List.length_take, List.length_cons, List.length_nil]; omega
      · exact (hbw.trans b1).size
      rintro e W2 ⟨rfl, h2, b2, k2⟩
      rw [hexCells l0 k hlt c HC.out h0 (by omega)] at h2
      go_wp2
      go_roundw
      case rel => exact ⟨k + 1, by omega, by go_num, .inr h2, (hbw.trans b1).trans b2⟩
      case measure => simp [intOf]; omega
    · go_wp2_with (go_at_call 43; refine (Tryz.Builder_String_any_k w.heap.size w.heap.size _ _ hI hbw.size).mono ?_)
      rintro e W1 ⟨rfl, _, b1, _⟩
      go_wp2
      go_ret
      rw [List.take_of_length_le (by omega)]
      exact ⟨rfl, hbw.trans b1⟩
end Go.Proofs.YtdcldaknmenklaaGreatDoor.M
end
section
namespace Go.Proofs.YtdcldaknmenklaaGreatDoor.M
open Go.RowKit Go.Proofs.YtdcldaknmenklaaGreatDoorW.PrintWords
set_option linter.unusedVariables false
/-- A byte of a name, written. -/
def writeOf (c : UInt8) : List UInt8 := if isPlainB c.toNat then [c] else 35 :: hexOf c.toNat
def writeBytes (l : List UInt8) : List UInt8 := l.flatMap writeOf
def lex_Write.f (a0 : ByteArray) : Option ByteArray := if a0.size * 3 ≤ 140737488355328 then some ⟨(writeBytes a0.data.toList).toArray⟩ else none
theorem writeOf_length (c : UInt8) : 1 ≤ (writeOf c).length ∧ (writeOf c).length ≤ 3 := by
  unfold writeOf; split <;> simp [hexOf]
theorem writeBytes_length (l : List UInt8) : l.length ≤ (writeBytes l).length ∧ (writeBytes l).length ≤ 3 * l.length := by
  induction l with
  | nil => simp [writeBytes]
  | cons c l ih =>
    have := writeOf_length c
    simp only [writeBytes, List.flatMap_cons, List.length_append, List.length_cons] at ih ⊢
    omega
theorem writeBytes_snoc (s : ByteArray) (i : Nat) (h : i < s.size) : writeBytes (s.data.toList.take (i + 1)) = writeBytes (s.data.toList.take i) ++ writeOf s[i] := by
  unfold writeBytes
  rw [List.take_succ_eq_append_getElem (by simpa using h), List.flatMap_append]
  simp
  rfl
set_option maxHeartbeats 4000000 in
set_option maxRecDepth 1000000 in
theorem lex_Write.calls (a0 : ByteArray) (r : ByteArray) (w : World) (h : lex_Write.f a0 = some r) :
    Calls Tryz.prog 187 #[.string a0] w fun e w' => e = .returned (.string r) ∧ Below w.heap.size w w' := by
  unfold lex_Write.f at h
  split at h
  case isFalse => cases h
  rename_i hl
  obtain rfl := Option.some.inj h
  clear h
  go_enter Tryz.func187, Tryz.ntmps187
  go_wp2
  go_loopw [7] (fun i wr => ∃ k : Nat, k ≤ a0.size ∧ i = .int .i64 k ∧ IsBd w.heap.size w.heap.size (writeBytes (a0.data.toList.take k)) wr ∧ Below w.heap.size w wr) (fun i wr => a0.size - (intOf i).toNat)
  case atStart => 
    refine ⟨0, Nat.zero_le _, rfl, (Lib.IsBuilderF.of (Lib.fresh_isBuilder _ _ w)), (Below.refl _ w).alloc (Nat.le_refl _) _⟩
  case round =>
    obtain ⟨k, hk, rfl, hI, hbw⟩ := hrel
    by_cases hlt : k < a0.size
    · have hlen := writeBytes_length (a0.data.toList.take k)
      rw [List.length_take, Array.length_toList] at hlen
      have hsz : min k a0.data.size = k := by have : a0.data.size = a0.size := rfl; omega
      rw [hsz] at hlen
      clear hsz
      have HS := Aside0.mk (writeBytes_snoc a0 k hlt)
      have h256 := (a0[k]).toNat_lt
      have hc := plain_eq (Nat.le_refl 2) (a0[k].toNat : Int) (by omega) (by omega)
      by_cases hp : isPlainB (a0[k].toNat : Int) = true
      · rw [hp] at hc
        have HP := Aside0.mk hp
        have HC := Aside0.mk hc
        clear hp hc
        go_wp2_with (go_at_call 188; refine (lex_plain.calls 2 _ true _ HC.out).mono ?_)
        rintro e W1 ⟨rfl, b1⟩
        replace hI := hI.below b1
        replace hbw := below_then hbw hbw.size b1
        clear b1
        go_wp2_with (go_at_call 88; refine (WriteByte_k w.heap.size w.heap.size _ _ _ hI ?_ ?_).mono ?_)
        · rw [Lib.byteCells_length]; omega
        · exact hbw.size
        rintro e W2 ⟨rfl, h2, b2, k2⟩
        go_wp2
        go_roundw
        case rel =>
          refine ⟨k + 1, by omega, by go_num, ?_, hbw.trans b2⟩
          rw [HS.out, IsBd, Lib.byteCells_append]
          have e : writeOf a0[k] = [a0[k]] := by unfold writeOf; rw [if_pos HP.out]
          rw [e]
          exact .inr h2
        case measure => simp [intOf]; omega
      · have hp' : isPlainB (a0[k].toNat : Int) = false := by simpa using hp
        rw [hp'] at hc
        have HP := Aside0.mk hp'
        have HC := Aside0.mk hc
        clear hp hp' hc
        have hx : hex_Hex.f [(a0[k].toNat : Int)] = some ⟨(hexBytes [(a0[k].toNat : Int)]).toArray⟩ := by
          unfold hex_Hex.f
          rw [if_pos (by simp [isByte]; omega), if_pos (by simp)]
        have HX := Aside0.mk hx
        clear hx
        go_wp2_with (go_at_call 188; refine (lex_plain.calls 2 _ false _ HC.out).mono ?_)
        rintro e W1 ⟨rfl, b1⟩
        replace hI := hI.below b1
        replace hbw := below_then hbw hbw.size b1
        clear b1
        go_wp2_with (go_at_call 88; refine (WriteByte_k w.heap.size w.heap.size _ _ _ hI ?_ ?_).mono ?_)
        · rw [Lib.byteCells_length]; omega
        · exact hbw.size
        rintro e W2 ⟨rfl, h2, b2, k2⟩
        replace hbw := hbw.trans b2
        have hI2 : IsBd w.heap.size w.heap.size (writeBytes (List.take k a0.data.toList) ++ [35]) W2 := by
          rw [IsBd, Lib.byteCells_append]; exact .inr h2
        have hr : Kd.C (Kd.int .u8) (W2.alloc (.cells #[.int .u8 (a0[k].toNat : Int)] 5)) (some ⟨W2.heap.size, 0, none⟩) 1 [(a0[k].toNat : Int)] := reads_one _ _ _ _
        clear hI b2 k2 h2
        go_wp2_with (go_at_call 189; refine (hex_Hex.calls _ 1 [(a0[k].toNat : Int)] _ _ hr (Nat.le_refl 1) HX.out).mono ?_)
        clear hr
        rintro e W3 ⟨rfl, b3⟩
        have hI3 := (IsBd.alloc hI2 (.cells #[.int .u8 (a0[k].toNat : Int)] 5)).below b3
        have hb3 : Below w.heap.size w W3 := below_then (below_alloc hbw _) (below_alloc hbw _).size b3
        clear hI2 b3 hbw
        have hxs : (ByteArray.mk (hexBytes [(a0[k].toNat : Int)]).toArray).size = 2 := by
          show (hexBytes [(a0[k].toNat : Int)]).toArray.size = 2
          rw [List.size_toArray, hexBytes_length]; rfl
        have HXS := Aside0.mk hxs
        clear hxs
        go_wp2_with (go_at_call 42; refine (WriteString_k w.heap.size w.heap.size _ _ _ hI3 ?_ ?_).mono ?_)
        · rw [Lib.byteCells_length, HXS.out, List.length_append, List.length_singleton]; omega
        · exact hb3.size
        rintro e W4 ⟨rfl, h4, b4, k4⟩
        go_wp2
        go_roundw
        case rel =>
          refine ⟨k + 1, by omega, by go_num, ?_, hb3.trans b4⟩
          rw [HS.out, IsBd]
          have e : writeOf a0[k] = 35 :: hexOf a0[k].toNat := by unfold writeOf; rw [HP.out]; rfl
          have e2 : Lib.byteCells (writeBytes (List.take k a0.data.toList) ++ writeOf a0[k]) = Lib.byteCells (writeBytes (List.take k a0.data.toList) ++ [35]) ++ Lib.strCells ⟨(hexBytes [(a0[k].toNat : Int)]).toArray⟩ := by
            rw [e, Lib.byteCells_append, Lib.byteCells_append, List.append_assoc]
            simp [Lib.byteCells, Lib.strCells, hexBytes]
          rw [e2]
          exact .inr h4
        case measure => simp [intOf]; omega
    · go_wp2_with (go_at_call 43; refine (Tryz.Builder_String_any_k w.heap.size w.heap.size _ _ hI hbw.size).mono ?_)
      rintro e W1 ⟨rfl, _, b1, _⟩
      go_wp2
      go_ret
      rw [List.take_of_length_le (by simp; omega)]
      exact ⟨rfl, hbw.trans b1⟩
end Go.Proofs.YtdcldaknmenklaaGreatDoor.M
end
section
namespace Go.Proofs.YtdcldaknmenklaaGreatDoor.M
open Go.RowKit Go.Proofs.YtdcldaknmenklaaGreatDoorW.PrintWords Go.Proofs.YtdcldaknmenklaaGreatDoorW.PrintLast Go.Proofs.YtdcldaknmenklaaGreatDoorW.PrintMore
set_option linter.unusedVariables false
set_option linter.unusedSimpArgs false
def shownL (x : S32) : List UInt8 := if x.f0 = true then Lib.itoa x.f1 else 47 :: writeBytes x.f2.data.toList
def shownB (x : S32) : ByteArray := ⟨(shownL x).toArray⟩
def okShown (x : S32) : Prop := -9223372036854775808 ≤ x.f1 ∧ x.f1 ≤ 9223372036854775807 ∧ x.f2.size * 3 ≤ 140737488355000
instance (x : S32) : Decidable (okShown x) := by unfold okShown; exact inferInstance
def wordsOf (l : List S32) : List ByteArray := (⟨#[91]⟩ : ByteArray) :: (l.map shownB ++ [(⟨#[93]⟩ : ByteArray)])
def diff_Text.f (l0 : List S32) : Option ByteArray := if l0.length ≤ 1000000 ∧ ∀ x ∈ l0, okShown x then strings_Join.f (wordsOf l0) (⟨#[32]⟩ : ByteArray) else none
set_option maxRecDepth 100000 in
theorem shown_int (n : Int) (h0 : -9223372036854775808 ≤ n) (h1 : n ≤ 9223372036854775807) (w : World) (hG : GW w) : Calls Tryz.prog 185 #[.int .i64 n] w fun e w' => e = .returned (.string ⟨(Lib.itoa n).toArray⟩) ∧ Below w.heap.size w w' := by
  go_enter Tryz.func185, Tryz.ntmps185
  go_wp2_with (go_at_call 35; refine (strconv_Itoa.calls n ⟨(Lib.itoa n).toArray⟩ _ hG (by unfold strconv_Itoa.f; rw [if_pos ⟨h0, h1⟩])).mono ?_; rintro e W2 ⟨rfl, hb2⟩)
  go_ret
  exact ⟨rfl, hb2⟩
set_option maxRecDepth 100000 in
theorem shown_name (s : ByteArray) (hs : s.size * 3 ≤ 140737488355000) (w : World) : Calls Tryz.prog 186 #[.string s] w fun e w' => e = .returned (.string ⟨(47 :: writeBytes s.data.toList).toArray⟩) ∧ Below w.heap.size w w' := by
  have hl := writeBytes_length s.data.toList
  have hz : (⟨(writeBytes s.data.toList).toArray⟩ : ByteArray).size ≤ 140737488355000 := by
    show (List.toArray _).size ≤ _
    have : s.data.toList.length = s.size := rfl
    simp only [List.size_toArray]
    omega
  have ha : (⟨#[47]⟩ : ByteArray) ++ ⟨(writeBytes s.data.toList).toArray⟩ = ⟨(47 :: writeBytes s.data.toList).toArray⟩ := by
    apply ByteArray.ext
    simp
  have hx : (9223372036854775807 < 1 + (writeBytes s.data.toList).length) = False := eq_false (by have : s.data.toList.length = s.size := rfl; omega)
  go_enter Tryz.func186, Tryz.ntmps186
  go_wp2_with (go_at_call 187; refine (lex_Write.calls s ⟨(writeBytes s.data.toList).toArray⟩ _ (by unfold lex_Write.f; rw [if_pos (by omega)])).mono ?_; rintro e W2 ⟨rfl, hb2⟩)
  go_ret
  exact ⟨rfl, hb2⟩
theorem method_int (v : Value) (w : World) : (Go.method 352 59 v "hornbook/diff.shown").run Tryz.prog w = .ok (185, v) w := by kernel_rfl
theorem method_name (v : Value) (w : World) : (Go.method 352 60 v "hornbook/diff.shown").run Tryz.prog w = .ok (186, v) w := by kernel_rfl
theorem shownL_int (n : Int) (s : ByteArray) : shownB ⟨true, n, s⟩ = ⟨(Lib.itoa n).toArray⟩ := by unfold shownB shownL; rw [if_pos rfl]
theorem shownL_name (n : Int) (s : ByteArray) : shownB ⟨false, n, s⟩ = ⟨(47 :: writeBytes s.data.toList).toArray⟩ := by unfold shownB shownL; rw [if_neg (by simp)]
set_option maxHeartbeats 4000000 in
set_option maxRecDepth 1000000 in
theorem diff_Text.calls (A0 : Option Addr) (c0 : Nat) (l0 : List S32) (r : ByteArray) (w : World) (hG : GW w) (hr0 : Kd.C k32 w A0 l0.length l0) (hc0 : l0.length ≤ c0) (h : diff_Text.f l0 = some r) :
    Calls Tryz.prog 23 #[.slice A0 l0.length c0] w fun e w' => e = .returned (.string r) ∧ Below w.heap.size w w' := by
  have hu := Tryz.underlying32
  have hm1 := method_int
  have hm2 := method_name
  unfold diff_Text.f at h
  split at h
  case isFalse => cases h
  rename_i hb
  obtain ⟨hlen, hok⟩ := hb
  have HR0 := Aside0.mk hr0
  have HG := Aside0.mk hG
  have HJ := Aside0.mk h
  have HOK := Aside0.mk hok
  clear hr0 hG h hok
  go_enter Tryz.func23, Tryz.ntmps23
  go_wp2
  go_loopw [3, 9] (fun v3 v9 wr => ∃ (k : Nat), k ≤ l0.length ∧ v9 = .int .i64 k ∧ Aside0 (Kd.R Kd.string 9 wr w.heap.size (fun _ => True) v3 ((⟨#[91]⟩ : ByteArray) :: (l0.take k).map shownB)) ∧ Aside0 (Below w.heap.size w wr)) (fun v3 v9 wr => l0.length - (intOf v9).toNat)
  case atStart =>
    refine ⟨0, Nat.zero_le _, rfl, ⟨?_⟩, ⟨below_alloc (Below.refl _ _) _⟩⟩
    exact strings_fresh w [(⟨#[91]⟩ : ByteArray)] _ 1 1 rfl (Nat.le_refl _) (by unfold maxLen; omega) rfl rfl
  case round =>
    obtain ⟨k, hk, rfl, HO, HB⟩ := hrel
    by_cases hlt : k < l0.length
    · have hrd : rd_T32 l0 (k : Int) = l0[k] := by
        unfold rd_T32
        rw [Int.toNat_natCast, List.getD_eq_getElem?_getD, List.getElem?_eq_getElem hlt]
        rfl
      obtain ⟨ad1, e1, hx0, hx1, hx2⟩ := at_T32 (Kd.C_below HR0.out HB.out) (k : Int) (by omega) (by omega)
      subst e1
      rw [hrd, Int.toNat_natCast] at hx0 hx1 hx2
      have hokx := HOK.out _ (List.getElem_mem hlt)
      have HT := Aside0.mk (show (l0.take (k + 1)).map shownB = (l0.take k).map shownB ++ [shownB l0[k]] by rw [List.take_succ_eq_append_getElem hlt, List.map_append]; rfl)
      clear hrd
      generalize l0[k] = x at hx0 hx1 hx2 hokx HT
      obtain ⟨xb, xn, xs0⟩ := x
      dsimp only at hx0 hx1 hx2
      obtain ⟨o1, o2, o3⟩ := hokx
      dsimp only at o1 o2 o3
      have hlt2 : decide ((k : Int) < (l0.length : Int)) = true := decide_eq_true (by omega)
      have hlk : ((⟨#[91]⟩ : ByteArray) :: (l0.take k).map shownB).length = k + 1 := by rw [List.length_cons, List.length_map, List.length_take]; omega
      cases xb with
      | true =>
        rw [shownL_int] at HT
        go_wp2_with (first | (go_at_call 28; refine (says_int xn xs0 _).mono ?_; rintro e W2 ⟨rfl, hb2⟩; have n1_ := Aside0.mk (below_step (below_alloc HB.out _) hb2); have n0_ := Aside0.mk (Kd.R_below (Kd.R_alloc HO.out _) hb2); clear hb2 HO HB; have HO := n0_; have HB := n1_; clear n0_ n1_; clear hx0 hx1 hx2) | (go_at_call 185; refine (shown_int xn o1 o2 _ (GW.below HB.out HG.out)).mono ?_; rintro e W3 ⟨rfl, hb3⟩; have n1_ := Aside0.mk (below_step HB.out hb3); have n0_ := Aside0.mk (Kd.R_below HO.out hb3); clear hb3 HO HB; have HO := n0_; have HB := n1_; clear n0_ n1_) | ((with_reducible refine gate_builtin (b := .append) (xs := #[.tmp 13, .tmp 17]) rfl ?_); at_builtin; refine Kd.R_append Kd.string (w0 := w) w.heap.size rfl (.tmp 13) (.tmp 17) 25 9 (.string ⟨#[]⟩) 16 rfl Tryz.underlying25 info9 rfl (by decide) (by omega) _ ((⟨#[91]⟩ : ByteArray) :: (l0.take k).map shownB) ⟨(Lib.itoa xn).toArray⟩ [.string ⟨(Lib.itoa xn).toArray⟩] (fun _ => True) (fun _ => False) rfl rfl ?aP (fun _ hk => hk.elim) ?aF ?aO ?aB ?aS ?aL ?_; (case aP => exact rfl); (case aB => exact HB.out); (case aF => exact (fun _ _ => trivial)); (case aO => exact HO.out); (case aS => exact below_size HB.out); (case aL => omega); intro v4 w4 ho hb hg hat; have n1_ := Aside0.mk (hb); have n0_ := Aside0.mk (ho); clear ho hb HO HB; have HO := n0_; have HB := n1_; clear n0_ n1_; clear hg hat))
        refine ⟨⟨k + 1, by omega, by go_num, ⟨by rw [HT.out]; exact HO.out⟩, HB⟩, ?_⟩
        simp [intOf]
        omega
      | false =>
        rw [shownL_name] at HT
        go_wp2_with (first | (go_at_call 28; refine (says_name xn xs0 _).mono ?_; rintro e W2 ⟨rfl, hb2⟩; have n1_ := Aside0.mk (below_step (below_alloc HB.out _) hb2); have n0_ := Aside0.mk (Kd.R_below (Kd.R_alloc HO.out _) hb2); clear hb2 HO HB; have HO := n0_; have HB := n1_; clear n0_ n1_; clear hx0 hx1 hx2) | (go_at_call 186; refine (shown_name xs0 o3 _).mono ?_; rintro e W3 ⟨rfl, hb3⟩; have n1_ := Aside0.mk (below_step HB.out hb3); have n0_ := Aside0.mk (Kd.R_below HO.out hb3); clear hb3 HO HB; have HO := n0_; have HB := n1_; clear n0_ n1_) | ((with_reducible refine gate_builtin (b := .append) (xs := #[.tmp 13, .tmp 17]) rfl ?_); at_builtin; refine Kd.R_append Kd.string (w0 := w) w.heap.size rfl (.tmp 13) (.tmp 17) 25 9 (.string ⟨#[]⟩) 16 rfl Tryz.underlying25 info9 rfl (by decide) (by omega) _ ((⟨#[91]⟩ : ByteArray) :: (l0.take k).map shownB) ⟨(47 :: writeBytes xs0.data.toList).toArray⟩ [.string ⟨(47 :: writeBytes xs0.data.toList).toArray⟩] (fun _ => True) (fun _ => False) rfl rfl ?aP (fun _ hk => hk.elim) ?aF ?aO ?aB ?aS ?aL ?_; (case aP => exact rfl); (case aB => exact HB.out); (case aF => exact (fun _ _ => trivial)); (case aO => exact HO.out); (case aS => exact below_size HB.out); (case aL => omega); intro v4 w4 ho hb hg hat; have n1_ := Aside0.mk (hb); have n0_ := Aside0.mk (ho); clear ho hb HO HB; have HO := n0_; have HB := n1_; clear n0_ n1_; clear hg hat))
        refine ⟨⟨k + 1, by omega, by go_num, ⟨by rw [HT.out]; exact HO.out⟩, HB⟩, ?_⟩
        simp [intOf]
        omega
    · have hkl : k = l0.length := by omega
      subst hkl
      have HW := Aside0.mk (show ((⟨#[91]⟩ : ByteArray) :: (l0.take l0.length).map shownB) ++ [(⟨#[93]⟩ : ByteArray)] = wordsOf l0 by rw [List.take_length]; rfl)
      have hlk : ((⟨#[91]⟩ : ByteArray) :: (l0.take l0.length).map shownB).length = l0.length + 1 := by rw [List.length_cons, List.length_map, List.length_take]; omega
      obtain ⟨NW, hNW⟩ : ∃ NW : Nat, (wordsOf l0).length = NW := ⟨_, rfl⟩
      have HNW := Aside0.mk hNW
      clear hNW
      go_wp2_with (first | ((with_reducible refine gate_builtin (b := .append) (xs := #[.tmp 20, .tmp 21]) rfl ?_); at_builtin; refine Kd.R_append Kd.string (w0 := w) w.heap.size rfl (.tmp 20) (.tmp 21) 25 9 (.string ⟨#[]⟩) 16 rfl Tryz.underlying25 info9 rfl (by decide) (by omega) _ ((⟨#[91]⟩ : ByteArray) :: (l0.take l0.length).map shownB) (⟨#[93]⟩ : ByteArray) [.string (⟨#[93]⟩ : ByteArray)] (fun _ => True) (fun _ => False) rfl rfl ?aP (fun _ hk => hk.elim) ?aF ?aO ?aB ?aS ?aL ?_; (case aP => exact rfl); (case aB => exact (by repeat (first | exact HB.out | apply below_alloc))); (case aF => exact (fun _ _ => trivial)); (case aO => exact (by (with_reducible repeat (first | apply Kd.R_alloc)); exact HO.out)); (case aS => exact (below_size (by repeat (first | exact HB.out | apply below_alloc)))); (case aL => omega); intro v4 w4 ho hb hg hat; rw [HW.out] at ho; obtain ⟨Ao, co, eo⟩ := Kd.R_slice ho; rw [HNW.out] at eo; subst eo; have HJC := Aside0.mk (strings_Join.calls Ao co (wordsOf l0) (⟨#[32]⟩ : ByteArray) r w4 (Kd.R_reads' ho).2.2 (by rw [HNW.out]; exact (Kd.R_reads' ho).2.1) HJ.out); have HB4 := Aside0.mk hb; clear ho hb hg hat) | (go_at_call 34; have hj_ := HJC.out; rw [HNW.out] at hj_; refine hj_.mono ?_; rintro e W5 ⟨rfl, hb5⟩; have HB5 := Aside0.mk (below_step HB4.out hb5); clear hj_ hb5))
      go_ret
      exact ⟨rfl, HB5.out⟩
end Go.Proofs.YtdcldaknmenklaaGreatDoor.M
end
section
/- Laid by this session's program hbprint.py out of the translation: the function hornbook/hornbooklaw17.awake and its contract. -/
namespace Go.Proofs.YtdcldaknmenklaaGreatDoor.M
open Go.RowKit Go.Proofs.YtdcldaknmenklaaGreatDoorW.PrintWords Go.Proofs.YtdcldaknmenklaaGreatDoorW.PrintLast Go.Proofs.YtdcldaknmenklaaGreatDoorW.PrintMore
attribute [local go_sem] max2_int min2_int max_two min_two max_three min_three max_four min_four
set_option linter.unusedVariables false
set_option linter.unusedSimpArgs false
def hornbooklaw17_awake.f (k : Nat)  : Option (Bool) := (diff_Parse.f k (⟨#[91, 32, 54, 53, 32, 47, 66, 32, 47, 67, 32, 57, 55, 32, 47, 97, 32, 93]⟩ : ByteArray)).bind fun bt275 => ((diff_Make.f k 1 bt275.1).bind fun bt280 => (if bt275.2.2 = 0 then (if bt275.2.1 = 18 then (if bt280.2.2 = 0 then (if (bt280.1.length : Int) = 256 then (if 65 < (bt280.1.length : Int) then (if (rdOf ByteArray.empty bt280.1 65).toList = ([66] : List UInt8) then (if 66 < (bt280.1.length : Int) then (if (rdOf ByteArray.empty bt280.1 66).toList = ([67] : List UInt8) then (if 67 < (bt280.1.length : Int) then (if (rdOf ByteArray.empty bt280.1 67).toList = ([67] : List UInt8) then ((diff_Text.f bt275.1).bind fun t288 => (some (t288.toList == ([91, 32, 54, 53, 32, 47, 66, 32, 47, 67, 32, 57, 55, 32, 47, 97, 32, 93] : List UInt8)))) else (some false)) else (none)) else (some false)) else (none)) else (some false)) else (none)) else (some false)) else (some false)) else (some false)) else (some false)))
set_option maxHeartbeats 8000000 in
set_option maxRecDepth 100000 in
theorem hornbooklaw17_awake.calls (k : Nat)  (r : Bool) (w : World) (hG : GW w) (h : hornbooklaw17_awake.f k  = some r) :
    Calls Tryz.prog 9 #[] w fun e w' => e = .returned (.bool r) ∧ Below w.heap.size w w' := by
  have HG := Aside0.mk hG
  clear hG
  have HB := Aside0.mk (Below.refl w.heap.size w)
  have H : ((diff_Parse.f k (⟨#[91, 32, 54, 53, 32, 47, 66, 32, 47, 67, 32, 57, 55, 32, 47, 97, 32, 93]⟩ : ByteArray)).bind fun bt275 => ((diff_Make.f k 1 bt275.1).bind fun bt280 => (if bt275.2.2 = 0 then (if bt275.2.1 = 18 then (if bt280.2.2 = 0 then (if (bt280.1.length : Int) = 256 then (if 65 < (bt280.1.length : Int) then (if (rdOf ByteArray.empty bt280.1 65).toList = ([66] : List UInt8) then (if 66 < (bt280.1.length : Int) then (if (rdOf ByteArray.empty bt280.1 66).toList = ([67] : List UInt8) then (if 67 < (bt280.1.length : Int) then (if (rdOf ByteArray.empty bt280.1 67).toList = ([67] : List UInt8) then ((diff_Text.f bt275.1).bind fun t288 => (some (t288.toList == ([91, 32, 54, 53, 32, 47, 66, 32, 47, 67, 32, 57, 55, 32, 47, 97, 32, 93] : List UInt8)))) else (some false)) else (none)) else (some false)) else (none)) else (some false)) else (none)) else (some false)) else (some false)) else (some false)) else (some false)))) = some r := h
  clear h
  replace H := Option.bind_eq_some_iff.mp H
  obtain ⟨⟨t275, t276, t277⟩, A10, H⟩ := H
  replace H : ((diff_Make.f k 1 t275).bind fun bt280 => (if t277 = 0 then (if t276 = 18 then (if bt280.2.2 = 0 then (if (bt280.1.length : Int) = 256 then (if 65 < (bt280.1.length : Int) then (if (rdOf ByteArray.empty bt280.1 65).toList = ([66] : List UInt8) then (if 66 < (bt280.1.length : Int) then (if (rdOf ByteArray.empty bt280.1 66).toList = ([67] : List UInt8) then (if 67 < (bt280.1.length : Int) then (if (rdOf ByteArray.empty bt280.1 67).toList = ([67] : List UInt8) then ((diff_Text.f t275).bind fun t288 => (some (t288.toList == ([91, 32, 54, 53, 32, 47, 66, 32, 47, 67, 32, 57, 55, 32, 47, 97, 32, 93] : List UInt8)))) else (some false)) else (none)) else (some false)) else (none)) else (some false)) else (none)) else (some false)) else (some false)) else (some false)) else (some false))) = some r := H
  have A1 := Aside0.mk A10
  clear A10
  replace H := Option.bind_eq_some_iff.mp H
  obtain ⟨⟨t280, t281, t282⟩, A20, H⟩ := H
  replace H : (if t277 = 0 then (if t276 = 18 then (if t282 = 0 then (if (t280.length : Int) = 256 then (if 65 < (t280.length : Int) then (if (rdOf ByteArray.empty t280 65).toList = ([66] : List UInt8) then (if 66 < (t280.length : Int) then (if (rdOf ByteArray.empty t280 66).toList = ([67] : List UInt8) then (if 67 < (t280.length : Int) then (if (rdOf ByteArray.empty t280 67).toList = ([67] : List UInt8) then ((diff_Text.f t275).bind fun t288 => (some (t288.toList == ([91, 32, 54, 53, 32, 47, 66, 32, 47, 67, 32, 57, 55, 32, 47, 97, 32, 93] : List UInt8)))) else (some false)) else (none)) else (some false)) else (none)) else (some false)) else (none)) else (some false)) else (some false)) else (some false)) else (some false)) = some r := H
  have A2 := Aside0.mk A20
  clear A20
  by_cases c3 : t277 = 0
  · rw [if_pos c3] at H
    have c3b0 : (t277 == 0) = true := beq_iff_eq.mpr c3
    have c3b1 : (t277 != 0) = false := bne_eq_false_iff_eq.mpr c3
    clear c3
    by_cases c4 : t276 = 18
    · rw [if_pos c4] at H
      have c4b0 : (t276 == 18) = true := beq_iff_eq.mpr c4
      have c4b1 : (t276 != 18) = false := bne_eq_false_iff_eq.mpr c4
      clear c4
      by_cases c5 : t282 = 0
      · rw [if_pos c5] at H
        have c5b0 : (t282 == 0) = true := beq_iff_eq.mpr c5
        have c5b1 : (t282 != 0) = false := bne_eq_false_iff_eq.mpr c5
        clear c5
        by_cases c6 : (t280.length : Int) = 256
        · rw [if_pos c6] at H
          have c6b0 : ((t280.length : Int) == 256) = true := beq_iff_eq.mpr c6
          have c6b1 : ((t280.length : Int) != 256) = false := bne_eq_false_iff_eq.mpr c6
          clear c6
          by_cases c7 : 65 < (t280.length : Int)
          · rw [if_pos c7] at H
            have c7b0 : decide (65 < (t280.length : Int)) = true := decide_eq_true c7
            have c7b1 : decide (65 < t280.length) = true := decide_eq_true (by omega)
            clear c7
            by_cases c8 : (rdOf ByteArray.empty t280 65).toList = ([66] : List UInt8)
            · rw [if_pos c8] at H
              have c8b0 : ((rdOf ByteArray.empty t280 65).toList == ([66] : List UInt8)) = true := beq_iff_eq.mpr c8
              have c8b1 : ((rdOf ByteArray.empty t280 65).toList != ([66] : List UInt8)) = false := bne_eq_false_iff_eq.mpr c8
              clear c8
              by_cases c9 : 66 < (t280.length : Int)
              · rw [if_pos c9] at H
                have c9b0 : decide (66 < (t280.length : Int)) = true := decide_eq_true c9
                have c9b1 : decide (66 < t280.length) = true := decide_eq_true (by omega)
                clear c9
                by_cases c10 : (rdOf ByteArray.empty t280 66).toList = ([67] : List UInt8)
                · rw [if_pos c10] at H
                  have c10b0 : ((rdOf ByteArray.empty t280 66).toList == ([67] : List UInt8)) = true := beq_iff_eq.mpr c10
                  have c10b1 : ((rdOf ByteArray.empty t280 66).toList != ([67] : List UInt8)) = false := bne_eq_false_iff_eq.mpr c10
                  clear c10
                  by_cases c11 : 67 < (t280.length : Int)
                  · rw [if_pos c11] at H
                    have c11b0 : decide (67 < (t280.length : Int)) = true := decide_eq_true c11
                    have c11b1 : decide (67 < t280.length) = true := decide_eq_true (by omega)
                    clear c11
                    by_cases c12 : (rdOf ByteArray.empty t280 67).toList = ([67] : List UInt8)
                    · rw [if_pos c12] at H
                      have c12b0 : ((rdOf ByteArray.empty t280 67).toList == ([67] : List UInt8)) = true := beq_iff_eq.mpr c12
                      have c12b1 : ((rdOf ByteArray.empty t280 67).toList != ([67] : List UInt8)) = false := bne_eq_false_iff_eq.mpr c12
                      clear c12
                      replace H := Option.bind_eq_some_iff.mp H
                      obtain ⟨t288, A130, H⟩ := H
                      replace H : (some (t288.toList == ([91, 32, 54, 53, 32, 47, 66, 32, 47, 67, 32, 57, 55, 32, 47, 97, 32, 93] : List UInt8))) = some r := H
                      have A13 := Aside0.mk A130
                      clear A130
                      obtain rfl := Option.some.inj H
                      go_enter Tryz.func9, Tryz.ntmps9
                      go_wp2_with (first | ((with_reducible refine gate_callee (f := 15) rfl ?_); refine goesL_ (some 8) rfl rfl Tryz.func15 (by kernel_rfl) rfl #[.string (⟨#[91, 32, 54, 53, 32, 47, 66, 32, 47, 67, 32, 57, 55, 32, 47, 97, 32, 93]⟩ : ByteArray)] rfl (by (try simp only [List.map_toArray, List.map_cons, List.map_nil]); first | done | rfl | (simp only [List.length_drop, List.length_take]; rfl)) ?_; (with_reducible refine (diff_Parse.calls k (⟨#[91, 32, 54, 53, 32, 47, 66, 32, 47, 67, 32, 57, 55, 32, 47, 97, 32, 93]⟩ : ByteArray) t275 t276 t277 _ ?side1 A1.out).mono ?_); (case side1 => exact GW.below (by repeat (first | (with_reducible first | exact HB.out | apply below_alloc | apply pw_below_drewN | apply below_drew1) | exact HB.out)) HG.out); rintro e w14 ⟨v278, rfl, ho0, hb⟩; refine ⟨_, rfl, ?_⟩; have n0_ := Aside0.mk (Kd.R_lower ho0 (below_size (by repeat (first | (with_reducible first | exact HB.out | apply below_alloc | apply pw_below_drewN | apply below_drew1) | exact HB.out)))); have n1_ := Aside0.mk (below_step (by repeat (first | (with_reducible first | exact HB.out | apply below_alloc | apply pw_below_drewN | apply below_drew1) | exact HB.out)) hb); clear HB; have HO279 := n0_; have HB := n1_; clear n0_ n1_; (try clear hb); (try clear hb2); (try clear hk); (try clear hi); (try clear ho0); obtain ⟨Ao15, co15, eo15⟩ := Kd.R_slice HO279.out; subst eo15) | ((with_reducible refine gate_callee (f := 11) rfl ?_); refine goesL_ (some 14) rfl rfl Tryz.func11 (by kernel_rfl) rfl #[.int .i64 1, .slice Ao15 t275.length co15] rfl (by (try simp only [List.map_toArray, List.map_cons, List.map_nil]); first | done | rfl | (simp only [List.length_drop, List.length_take]; rfl)) ?_; (with_reducible refine (diff_Make.calls k 1 _ _ t275 t280 t281 t282 _ ?side1 ?side2 ?side3 A2.out).mono ?_); (case side1 => exact GW.below (by repeat (first | (with_reducible first | exact HB.out | apply below_alloc | apply pw_below_drewN | apply below_drew1) | exact HB.out)) HG.out); (case side2 => repeat (first | exact (Kd.R_reads' HO279.out).2.2 | (with_reducible refine Kd.C_alloc ?_ _) | (with_reducible refine Kd.C_drewN ?_ _) | (with_reducible refine Kd.C_drew ?_))); (case side3 => exact (Kd.R_reads' HO279.out).2.1); rintro e w16 ⟨v283, rfl, ho0, hb⟩; refine ⟨_, rfl, ?_⟩; have n0_ := Aside0.mk (Kd.R_below (by (with_reducible repeat (first | apply Kd.R_alloc | apply Kd.R_drewN | apply Kd.R_drew)); exact HO279.out) hb); have n1_ := Aside0.mk (Kd.R_lower ho0 (below_size (by repeat (first | (with_reducible first | exact HB.out | apply below_alloc | apply pw_below_drewN | apply below_drew1) | exact HB.out)))); have n2_ := Aside0.mk (below_step (by repeat (first | (with_reducible first | exact HB.out | apply below_alloc | apply pw_below_drewN | apply below_drew1) | exact HB.out)) hb); clear HO279; clear HB; have HO279 := n0_; have HO284 := n1_; have HB := n2_; clear n0_ n1_ n2_; (try clear hb); (try clear hb2); (try clear hk); (try clear hi); (try clear ho0); obtain ⟨Ao17, co17, eo17⟩ := Kd.R_slice HO284.out; subst eo17; have p285 : 0 ≤ (65 : Int) := (by omega); have q285 : 65 < (t280.length : Int) := of_decide_eq_true (by first | (with_reducible assumption) | assumption); obtain ⟨ad285, e285, hx285_0⟩ := Kd.at_string (Kd.R_reads' HO284.out).2.2 65 p285 q285; cases e285; (try simp only [show (65 : Int).toNat = 65 from rfl, Nat.reduceMul, Nat.reduceEqDiff, Go.Addr.add, ↓reduceIte] at hx285_0); have qi285 : (65 < t280.length) = True := eq_true (by omega); (try rw [show ((65 : Int)).toNat = 65 from rfl] at hx285_0); replace p285 := eq_true p285; replace q285 := eq_true q285; have p286 : 0 ≤ (66 : Int) := (by omega); have q286 : 66 < (t280.length : Int) := of_decide_eq_true (by first | (with_reducible assumption) | assumption); obtain ⟨ad286, e286, hx286_0⟩ := Kd.at_string (Kd.R_reads' HO284.out).2.2 66 p286 q286; obtain rfl : ad285 = ad286 := (by injection e286); (try simp only [show (66 : Int).toNat = 66 from rfl, Nat.reduceMul, Nat.reduceEqDiff, Go.Addr.add, ↓reduceIte] at hx286_0); have qi286 : (66 < t280.length) = True := eq_true (by omega); (try rw [show ((66 : Int)).toNat = 66 from rfl] at hx286_0); replace p286 := eq_true p286; replace q286 := eq_true q286; have p287 : 0 ≤ (67 : Int) := (by omega); have q287 : 67 < (t280.length : Int) := of_decide_eq_true (by first | (with_reducible assumption) | assumption); obtain ⟨ad287, e287, hx287_0⟩ := Kd.at_string (Kd.R_reads' HO284.out).2.2 67 p287 q287; obtain rfl : ad285 = ad287 := (by injection e287); (try simp only [show (67 : Int).toNat = 67 from rfl, Nat.reduceMul, Nat.reduceEqDiff, Go.Addr.add, ↓reduceIte] at hx287_0); have qi287 : (67 < t280.length) = True := eq_true (by omega); (try rw [show ((67 : Int)).toNat = 67 from rfl] at hx287_0); replace p287 := eq_true p287; replace q287 := eq_true q287) | (go_at_call 23; (with_reducible refine (diff_Text.calls _ _ t275 t288 _ ?side1 ?side2 ?side3 A13.out).mono ?_); (case side1 => exact GW.below (by repeat (first | (with_reducible first | exact HB.out | apply below_alloc | apply pw_below_drewN | apply below_drew1) | exact HB.out)) HG.out); (case side2 => repeat (first | exact (Kd.R_reads' HO279.out).2.2 | (with_reducible refine Kd.C_alloc ?_ _) | (with_reducible refine Kd.C_drewN ?_ _) | (with_reducible refine Kd.C_drew ?_))); (case side3 => exact (Kd.R_reads' HO279.out).2.1); rintro e w18 ⟨rfl, hb⟩; have n0_ := Aside0.mk (Kd.R_below (by (with_reducible repeat (first | apply Kd.R_alloc | apply Kd.R_drewN | apply Kd.R_drew)); exact HO279.out) hb); have n1_ := Aside0.mk (Kd.R_below (by (with_reducible repeat (first | apply Kd.R_alloc | apply Kd.R_drewN | apply Kd.R_drew)); exact HO284.out) hb); have n2_ := Aside0.mk (below_step (by repeat (first | (with_reducible first | exact HB.out | apply below_alloc | apply pw_below_drewN | apply below_drew1) | exact HB.out)) hb); clear HO279; clear HO284; clear HB; have HO279 := n0_; have HO284 := n1_; have HB := n2_; clear n0_ n1_ n2_; (try clear hb); (try clear hb2); (try clear hk); (try clear hi)))
                      go_ret
                      exact ⟨by first | rfl | (simp [errW_none, errW_some] <;> rfl) | (simp [*, errW_none, errW_some] <;> rfl), by repeat (first | (with_reducible first | exact HB.out | apply below_alloc | apply pw_below_drewN | apply below_drew1) | exact HB.out)⟩
                    · rw [if_neg c12] at H
                      have c12b0 : ((rdOf ByteArray.empty t280 67).toList == ([67] : List UInt8)) = false := beq_eq_false_iff_ne.mpr c12
                      have c12b1 : ((rdOf ByteArray.empty t280 67).toList != ([67] : List UInt8)) = true := bne_iff_ne.mpr c12
                      obtain rfl := Option.some.inj H
                      go_enter Tryz.func9, Tryz.ntmps9
                      go_wp2_with (first | ((with_reducible refine gate_callee (f := 15) rfl ?_); refine goesL_ (some 8) rfl rfl Tryz.func15 (by kernel_rfl) rfl #[.string (⟨#[91, 32, 54, 53, 32, 47, 66, 32, 47, 67, 32, 57, 55, 32, 47, 97, 32, 93]⟩ : ByteArray)] rfl (by (try simp only [List.map_toArray, List.map_cons, List.map_nil]); first | done | rfl | (simp only [List.length_drop, List.length_take]; rfl)) ?_; (with_reducible refine (diff_Parse.calls k (⟨#[91, 32, 54, 53, 32, 47, 66, 32, 47, 67, 32, 57, 55, 32, 47, 97, 32, 93]⟩ : ByteArray) t275 t276 t277 _ ?side1 A1.out).mono ?_); (case side1 => exact GW.below (by repeat (first | (with_reducible first | exact HB.out | apply below_alloc | apply pw_below_drewN | apply below_drew1) | exact HB.out)) HG.out); rintro e w19 ⟨v278, rfl, ho0, hb⟩; refine ⟨_, rfl, ?_⟩; have n0_ := Aside0.mk (Kd.R_lower ho0 (below_size (by repeat (first | (with_reducible first | exact HB.out | apply below_alloc | apply pw_below_drewN | apply below_drew1) | exact HB.out)))); have n1_ := Aside0.mk (below_step (by repeat (first | (with_reducible first | exact HB.out | apply below_alloc | apply pw_below_drewN | apply below_drew1) | exact HB.out)) hb); clear HB; have HO279 := n0_; have HB := n1_; clear n0_ n1_; (try clear hb); (try clear hb2); (try clear hk); (try clear hi); (try clear ho0); obtain ⟨Ao20, co20, eo20⟩ := Kd.R_slice HO279.out; subst eo20) | ((with_reducible refine gate_callee (f := 11) rfl ?_); refine goesL_ (some 14) rfl rfl Tryz.func11 (by kernel_rfl) rfl #[.int .i64 1, .slice Ao20 t275.length co20] rfl (by (try simp only [List.map_toArray, List.map_cons, List.map_nil]); first | done | rfl | (simp only [List.length_drop, List.length_take]; rfl)) ?_; (with_reducible refine (diff_Make.calls k 1 _ _ t275 t280 t281 t282 _ ?side1 ?side2 ?side3 A2.out).mono ?_); (case side1 => exact GW.below (by repeat (first | (with_reducible first | exact HB.out | apply below_alloc | apply pw_below_drewN | apply below_drew1) | exact HB.out)) HG.out); (case side2 => repeat (first | exact (Kd.R_reads' HO279.out).2.2 | (with_reducible refine Kd.C_alloc ?_ _) | (with_reducible refine Kd.C_drewN ?_ _) | (with_reducible refine Kd.C_drew ?_))); (case side3 => exact (Kd.R_reads' HO279.out).2.1); rintro e w21 ⟨v283, rfl, ho0, hb⟩; refine ⟨_, rfl, ?_⟩; have n0_ := Aside0.mk (Kd.R_below (by (with_reducible repeat (first | apply Kd.R_alloc | apply Kd.R_drewN | apply Kd.R_drew)); exact HO279.out) hb); have n1_ := Aside0.mk (Kd.R_lower ho0 (below_size (by repeat (first | (with_reducible first | exact HB.out | apply below_alloc | apply pw_below_drewN | apply below_drew1) | exact HB.out)))); have n2_ := Aside0.mk (below_step (by repeat (first | (with_reducible first | exact HB.out | apply below_alloc | apply pw_below_drewN | apply below_drew1) | exact HB.out)) hb); clear HO279; clear HB; have HO279 := n0_; have HO284 := n1_; have HB := n2_; clear n0_ n1_ n2_; (try clear hb); (try clear hb2); (try clear hk); (try clear hi); (try clear ho0); obtain ⟨Ao22, co22, eo22⟩ := Kd.R_slice HO284.out; subst eo22; have p285 : 0 ≤ (65 : Int) := (by omega); have q285 : 65 < (t280.length : Int) := of_decide_eq_true (by first | (with_reducible assumption) | assumption); obtain ⟨ad285, e285, hx285_0⟩ := Kd.at_string (Kd.R_reads' HO284.out).2.2 65 p285 q285; cases e285; (try simp only [show (65 : Int).toNat = 65 from rfl, Nat.reduceMul, Nat.reduceEqDiff, Go.Addr.add, ↓reduceIte] at hx285_0); have qi285 : (65 < t280.length) = True := eq_true (by omega); (try rw [show ((65 : Int)).toNat = 65 from rfl] at hx285_0); replace p285 := eq_true p285; replace q285 := eq_true q285; have p286 : 0 ≤ (66 : Int) := (by omega); have q286 : 66 < (t280.length : Int) := of_decide_eq_true (by first | (with_reducible assumption) | assumption); obtain ⟨ad286, e286, hx286_0⟩ := Kd.at_string (Kd.R_reads' HO284.out).2.2 66 p286 q286; obtain rfl : ad285 = ad286 := (by injection e286); (try simp only [show (66 : Int).toNat = 66 from rfl, Nat.reduceMul, Nat.reduceEqDiff, Go.Addr.add, ↓reduceIte] at hx286_0); have qi286 : (66 < t280.length) = True := eq_true (by omega); (try rw [show ((66 : Int)).toNat = 66 from rfl] at hx286_0); replace p286 := eq_true p286; replace q286 := eq_true q286; have p287 : 0 ≤ (67 : Int) := (by omega); have q287 : 67 < (t280.length : Int) := of_decide_eq_true (by first | (with_reducible assumption) | assumption); obtain ⟨ad287, e287, hx287_0⟩ := Kd.at_string (Kd.R_reads' HO284.out).2.2 67 p287 q287; obtain rfl : ad285 = ad287 := (by injection e287); (try simp only [show (67 : Int).toNat = 67 from rfl, Nat.reduceMul, Nat.reduceEqDiff, Go.Addr.add, ↓reduceIte] at hx287_0); have qi287 : (67 < t280.length) = True := eq_true (by omega); (try rw [show ((67 : Int)).toNat = 67 from rfl] at hx287_0); replace p287 := eq_true p287; replace q287 := eq_true q287))
                      go_ret
                      exact ⟨by first | rfl | (simp [errW_none, errW_some] <;> rfl) | (simp [*, errW_none, errW_some] <;> rfl), by repeat (first | (with_reducible first | exact HB.out | apply below_alloc | apply pw_below_drewN | apply below_drew1) | exact HB.out)⟩
                  · rw [if_neg c11] at H
                    exact absurd H (by simp)
                · rw [if_neg c10] at H
                  have c10b0 : ((rdOf ByteArray.empty t280 66).toList == ([67] : List UInt8)) = false := beq_eq_false_iff_ne.mpr c10
                  have c10b1 : ((rdOf ByteArray.empty t280 66).toList != ([67] : List UInt8)) = true := bne_iff_ne.mpr c10
                  obtain rfl := Option.some.inj H
                  go_enter Tryz.func9, Tryz.ntmps9
                  go_wp2_with (first | ((with_reducible refine gate_callee (f := 15) rfl ?_); refine goesL_ (some 8) rfl rfl Tryz.func15 (by kernel_rfl) rfl #[.string (⟨#[91, 32, 54, 53, 32, 47, 66, 32, 47, 67, 32, 57, 55, 32, 47, 97, 32, 93]⟩ : ByteArray)] rfl (by (try simp only [List.map_toArray, List.map_cons, List.map_nil]); first | done | rfl | (simp only [List.length_drop, List.length_take]; rfl)) ?_; (with_reducible refine (diff_Parse.calls k (⟨#[91, 32, 54, 53, 32, 47, 66, 32, 47, 67, 32, 57, 55, 32, 47, 97, 32, 93]⟩ : ByteArray) t275 t276 t277 _ ?side1 A1.out).mono ?_); (case side1 => exact GW.below (by repeat (first | (with_reducible first | exact HB.out | apply below_alloc | apply pw_below_drewN | apply below_drew1) | exact HB.out)) HG.out); rintro e w23 ⟨v278, rfl, ho0, hb⟩; refine ⟨_, rfl, ?_⟩; have n0_ := Aside0.mk (Kd.R_lower ho0 (below_size (by repeat (first | (with_reducible first | exact HB.out | apply below_alloc | apply pw_below_drewN | apply below_drew1) | exact HB.out)))); have n1_ := Aside0.mk (below_step (by repeat (first | (with_reducible first | exact HB.out | apply below_alloc | apply pw_below_drewN | apply below_drew1) | exact HB.out)) hb); clear HB; have HO279 := n0_; have HB := n1_; clear n0_ n1_; (try clear hb); (try clear hb2); (try clear hk); (try clear hi); (try clear ho0); obtain ⟨Ao24, co24, eo24⟩ := Kd.R_slice HO279.out; subst eo24) | ((with_reducible refine gate_callee (f := 11) rfl ?_); refine goesL_ (some 14) rfl rfl Tryz.func11 (by kernel_rfl) rfl #[.int .i64 1, .slice Ao24 t275.length co24] rfl (by (try simp only [List.map_toArray, List.map_cons, List.map_nil]); first | done | rfl | (simp only [List.length_drop, List.length_take]; rfl)) ?_; (with_reducible refine (diff_Make.calls k 1 _ _ t275 t280 t281 t282 _ ?side1 ?side2 ?side3 A2.out).mono ?_); (case side1 => exact GW.below (by repeat (first | (with_reducible first | exact HB.out | apply below_alloc | apply pw_below_drewN | apply below_drew1) | exact HB.out)) HG.out); (case side2 => repeat (first | exact (Kd.R_reads' HO279.out).2.2 | (with_reducible refine Kd.C_alloc ?_ _) | (with_reducible refine Kd.C_drewN ?_ _) | (with_reducible refine Kd.C_drew ?_))); (case side3 => exact (Kd.R_reads' HO279.out).2.1); rintro e w25 ⟨v283, rfl, ho0, hb⟩; refine ⟨_, rfl, ?_⟩; have n0_ := Aside0.mk (Kd.R_below (by (with_reducible repeat (first | apply Kd.R_alloc | apply Kd.R_drewN | apply Kd.R_drew)); exact HO279.out) hb); have n1_ := Aside0.mk (Kd.R_lower ho0 (below_size (by repeat (first | (with_reducible first | exact HB.out | apply below_alloc | apply pw_below_drewN | apply below_drew1) | exact HB.out)))); have n2_ := Aside0.mk (below_step (by repeat (first | (with_reducible first | exact HB.out | apply below_alloc | apply pw_below_drewN | apply below_drew1) | exact HB.out)) hb); clear HO279; clear HB; have HO279 := n0_; have HO284 := n1_; have HB := n2_; clear n0_ n1_ n2_; (try clear hb); (try clear hb2); (try clear hk); (try clear hi); (try clear ho0); obtain ⟨Ao26, co26, eo26⟩ := Kd.R_slice HO284.out; subst eo26; have p285 : 0 ≤ (65 : Int) := (by omega); have q285 : 65 < (t280.length : Int) := of_decide_eq_true (by first | (with_reducible assumption) | assumption); obtain ⟨ad285, e285, hx285_0⟩ := Kd.at_string (Kd.R_reads' HO284.out).2.2 65 p285 q285; cases e285; (try simp only [show (65 : Int).toNat = 65 from rfl, Nat.reduceMul, Nat.reduceEqDiff, Go.Addr.add, ↓reduceIte] at hx285_0); have qi285 : (65 < t280.length) = True := eq_true (by omega); (try rw [show ((65 : Int)).toNat = 65 from rfl] at hx285_0); replace p285 := eq_true p285; replace q285 := eq_true q285; have p286 : 0 ≤ (66 : Int) := (by omega); have q286 : 66 < (t280.length : Int) := of_decide_eq_true (by first | (with_reducible assumption) | assumption); obtain ⟨ad286, e286, hx286_0⟩ := Kd.at_string (Kd.R_reads' HO284.out).2.2 66 p286 q286; obtain rfl : ad285 = ad286 := (by injection e286); (try simp only [show (66 : Int).toNat = 66 from rfl, Nat.reduceMul, Nat.reduceEqDiff, Go.Addr.add, ↓reduceIte] at hx286_0); have qi286 : (66 < t280.length) = True := eq_true (by omega); (try rw [show ((66 : Int)).toNat = 66 from rfl] at hx286_0); replace p286 := eq_true p286; replace q286 := eq_true q286))
                  go_ret
                  exact ⟨by first | rfl | (simp [errW_none, errW_some] <;> rfl) | (simp [*, errW_none, errW_some] <;> rfl), by repeat (first | (with_reducible first | exact HB.out | apply below_alloc | apply pw_below_drewN | apply below_drew1) | exact HB.out)⟩
              · rw [if_neg c9] at H
                exact absurd H (by simp)
            · rw [if_neg c8] at H
              have c8b0 : ((rdOf ByteArray.empty t280 65).toList == ([66] : List UInt8)) = false := beq_eq_false_iff_ne.mpr c8
              have c8b1 : ((rdOf ByteArray.empty t280 65).toList != ([66] : List UInt8)) = true := bne_iff_ne.mpr c8
              obtain rfl := Option.some.inj H
              go_enter Tryz.func9, Tryz.ntmps9
              go_wp2_with (first | ((with_reducible refine gate_callee (f := 15) rfl ?_); refine goesL_ (some 8) rfl rfl Tryz.func15 (by kernel_rfl) rfl #[.string (⟨#[91, 32, 54, 53, 32, 47, 66, 32, 47, 67, 32, 57, 55, 32, 47, 97, 32, 93]⟩ : ByteArray)] rfl (by (try simp only [List.map_toArray, List.map_cons, List.map_nil]); first | done | rfl | (simp only [List.length_drop, List.length_take]; rfl)) ?_; (with_reducible refine (diff_Parse.calls k (⟨#[91, 32, 54, 53, 32, 47, 66, 32, 47, 67, 32, 57, 55, 32, 47, 97, 32, 93]⟩ : ByteArray) t275 t276 t277 _ ?side1 A1.out).mono ?_); (case side1 => exact GW.below (by repeat (first | (with_reducible first | exact HB.out | apply below_alloc | apply pw_below_drewN | apply below_drew1) | exact HB.out)) HG.out); rintro e w27 ⟨v278, rfl, ho0, hb⟩; refine ⟨_, rfl, ?_⟩; have n0_ := Aside0.mk (Kd.R_lower ho0 (below_size (by repeat (first | (with_reducible first | exact HB.out | apply below_alloc | apply pw_below_drewN | apply below_drew1) | exact HB.out)))); have n1_ := Aside0.mk (below_step (by repeat (first | (with_reducible first | exact HB.out | apply below_alloc | apply pw_below_drewN | apply below_drew1) | exact HB.out)) hb); clear HB; have HO279 := n0_; have HB := n1_; clear n0_ n1_; (try clear hb); (try clear hb2); (try clear hk); (try clear hi); (try clear ho0); obtain ⟨Ao28, co28, eo28⟩ := Kd.R_slice HO279.out; subst eo28) | ((with_reducible refine gate_callee (f := 11) rfl ?_); refine goesL_ (some 14) rfl rfl Tryz.func11 (by kernel_rfl) rfl #[.int .i64 1, .slice Ao28 t275.length co28] rfl (by (try simp only [List.map_toArray, List.map_cons, List.map_nil]); first | done | rfl | (simp only [List.length_drop, List.length_take]; rfl)) ?_; (with_reducible refine (diff_Make.calls k 1 _ _ t275 t280 t281 t282 _ ?side1 ?side2 ?side3 A2.out).mono ?_); (case side1 => exact GW.below (by repeat (first | (with_reducible first | exact HB.out | apply below_alloc | apply pw_below_drewN | apply below_drew1) | exact HB.out)) HG.out); (case side2 => repeat (first | exact (Kd.R_reads' HO279.out).2.2 | (with_reducible refine Kd.C_alloc ?_ _) | (with_reducible refine Kd.C_drewN ?_ _) | (with_reducible refine Kd.C_drew ?_))); (case side3 => exact (Kd.R_reads' HO279.out).2.1); rintro e w29 ⟨v283, rfl, ho0, hb⟩; refine ⟨_, rfl, ?_⟩; have n0_ := Aside0.mk (Kd.R_below (by (with_reducible repeat (first | apply Kd.R_alloc | apply Kd.R_drewN | apply Kd.R_drew)); exact HO279.out) hb); have n1_ := Aside0.mk (Kd.R_lower ho0 (below_size (by repeat (first | (with_reducible first | exact HB.out | apply below_alloc | apply pw_below_drewN | apply below_drew1) | exact HB.out)))); have n2_ := Aside0.mk (below_step (by repeat (first | (with_reducible first | exact HB.out | apply below_alloc | apply pw_below_drewN | apply below_drew1) | exact HB.out)) hb); clear HO279; clear HB; have HO279 := n0_; have HO284 := n1_; have HB := n2_; clear n0_ n1_ n2_; (try clear hb); (try clear hb2); (try clear hk); (try clear hi); (try clear ho0); obtain ⟨Ao30, co30, eo30⟩ := Kd.R_slice HO284.out; subst eo30; have p285 : 0 ≤ (65 : Int) := (by omega); have q285 : 65 < (t280.length : Int) := of_decide_eq_true (by first | (with_reducible assumption) | assumption); obtain ⟨ad285, e285, hx285_0⟩ := Kd.at_string (Kd.R_reads' HO284.out).2.2 65 p285 q285; cases e285; (try simp only [show (65 : Int).toNat = 65 from rfl, Nat.reduceMul, Nat.reduceEqDiff, Go.Addr.add, ↓reduceIte] at hx285_0); have qi285 : (65 < t280.length) = True := eq_true (by omega); (try rw [show ((65 : Int)).toNat = 65 from rfl] at hx285_0); replace p285 := eq_true p285; replace q285 := eq_true q285))
              go_ret
              exact ⟨by first | rfl | (simp [errW_none, errW_some] <;> rfl) | (simp [*, errW_none, errW_some] <;> rfl), by repeat (first | (with_reducible first | exact HB.out | apply below_alloc | apply pw_below_drewN | apply below_drew1) | exact HB.out)⟩
          · rw [if_neg c7] at H
            exact absurd H (by simp)
        · rw [if_neg c6] at H
          have c6b0 : ((t280.length : Int) == 256) = false := beq_eq_false_iff_ne.mpr c6
          have c6b1 : ((t280.length : Int) != 256) = true := bne_iff_ne.mpr c6
          obtain rfl := Option.some.inj H
          go_enter Tryz.func9, Tryz.ntmps9
          go_wp2_with (first | ((with_reducible refine gate_callee (f := 15) rfl ?_); refine goesL_ (some 8) rfl rfl Tryz.func15 (by kernel_rfl) rfl #[.string (⟨#[91, 32, 54, 53, 32, 47, 66, 32, 47, 67, 32, 57, 55, 32, 47, 97, 32, 93]⟩ : ByteArray)] rfl (by (try simp only [List.map_toArray, List.map_cons, List.map_nil]); first | done | rfl | (simp only [List.length_drop, List.length_take]; rfl)) ?_; (with_reducible refine (diff_Parse.calls k (⟨#[91, 32, 54, 53, 32, 47, 66, 32, 47, 67, 32, 57, 55, 32, 47, 97, 32, 93]⟩ : ByteArray) t275 t276 t277 _ ?side1 A1.out).mono ?_); (case side1 => exact GW.below (by repeat (first | (with_reducible first | exact HB.out | apply below_alloc | apply pw_below_drewN | apply below_drew1) | exact HB.out)) HG.out); rintro e w31 ⟨v278, rfl, ho0, hb⟩; refine ⟨_, rfl, ?_⟩; have n0_ := Aside0.mk (Kd.R_lower ho0 (below_size (by repeat (first | (with_reducible first | exact HB.out | apply below_alloc | apply pw_below_drewN | apply below_drew1) | exact HB.out)))); have n1_ := Aside0.mk (below_step (by repeat (first | (with_reducible first | exact HB.out | apply below_alloc | apply pw_below_drewN | apply below_drew1) | exact HB.out)) hb); clear HB; have HO279 := n0_; have HB := n1_; clear n0_ n1_; (try clear hb); (try clear hb2); (try clear hk); (try clear hi); (try clear ho0); obtain ⟨Ao32, co32, eo32⟩ := Kd.R_slice HO279.out; subst eo32) | ((with_reducible refine gate_callee (f := 11) rfl ?_); refine goesL_ (some 14) rfl rfl Tryz.func11 (by kernel_rfl) rfl #[.int .i64 1, .slice Ao32 t275.length co32] rfl (by (try simp only [List.map_toArray, List.map_cons, List.map_nil]); first | done | rfl | (simp only [List.length_drop, List.length_take]; rfl)) ?_; (with_reducible refine (diff_Make.calls k 1 _ _ t275 t280 t281 t282 _ ?side1 ?side2 ?side3 A2.out).mono ?_); (case side1 => exact GW.below (by repeat (first | (with_reducible first | exact HB.out | apply below_alloc | apply pw_below_drewN | apply below_drew1) | exact HB.out)) HG.out); (case side2 => repeat (first | exact (Kd.R_reads' HO279.out).2.2 | (with_reducible refine Kd.C_alloc ?_ _) | (with_reducible refine Kd.C_drewN ?_ _) | (with_reducible refine Kd.C_drew ?_))); (case side3 => exact (Kd.R_reads' HO279.out).2.1); rintro e w33 ⟨v283, rfl, ho0, hb⟩; refine ⟨_, rfl, ?_⟩; have n0_ := Aside0.mk (Kd.R_below (by (with_reducible repeat (first | apply Kd.R_alloc | apply Kd.R_drewN | apply Kd.R_drew)); exact HO279.out) hb); have n1_ := Aside0.mk (Kd.R_lower ho0 (below_size (by repeat (first | (with_reducible first | exact HB.out | apply below_alloc | apply pw_below_drewN | apply below_drew1) | exact HB.out)))); have n2_ := Aside0.mk (below_step (by repeat (first | (with_reducible first | exact HB.out | apply below_alloc | apply pw_below_drewN | apply below_drew1) | exact HB.out)) hb); clear HO279; clear HB; have HO279 := n0_; have HO284 := n1_; have HB := n2_; clear n0_ n1_ n2_; (try clear hb); (try clear hb2); (try clear hk); (try clear hi); (try clear ho0); obtain ⟨Ao34, co34, eo34⟩ := Kd.R_slice HO284.out; subst eo34))
          go_ret
          exact ⟨by first | rfl | (simp [errW_none, errW_some] <;> rfl) | (simp [*, errW_none, errW_some] <;> rfl), by repeat (first | (with_reducible first | exact HB.out | apply below_alloc | apply pw_below_drewN | apply below_drew1) | exact HB.out)⟩
      · rw [if_neg c5] at H
        have c5b0 : (t282 == 0) = false := beq_eq_false_iff_ne.mpr c5
        have c5b1 : (t282 != 0) = true := bne_iff_ne.mpr c5
        obtain rfl := Option.some.inj H
        go_enter Tryz.func9, Tryz.ntmps9
        go_wp2_with (first | ((with_reducible refine gate_callee (f := 15) rfl ?_); refine goesL_ (some 8) rfl rfl Tryz.func15 (by kernel_rfl) rfl #[.string (⟨#[91, 32, 54, 53, 32, 47, 66, 32, 47, 67, 32, 57, 55, 32, 47, 97, 32, 93]⟩ : ByteArray)] rfl (by (try simp only [List.map_toArray, List.map_cons, List.map_nil]); first | done | rfl | (simp only [List.length_drop, List.length_take]; rfl)) ?_; (with_reducible refine (diff_Parse.calls k (⟨#[91, 32, 54, 53, 32, 47, 66, 32, 47, 67, 32, 57, 55, 32, 47, 97, 32, 93]⟩ : ByteArray) t275 t276 t277 _ ?side1 A1.out).mono ?_); (case side1 => exact GW.below (by repeat (first | (with_reducible first | exact HB.out | apply below_alloc | apply pw_below_drewN | apply below_drew1) | exact HB.out)) HG.out); rintro e w35 ⟨v278, rfl, ho0, hb⟩; refine ⟨_, rfl, ?_⟩; have n0_ := Aside0.mk (Kd.R_lower ho0 (below_size (by repeat (first | (with_reducible first | exact HB.out | apply below_alloc | apply pw_below_drewN | apply below_drew1) | exact HB.out)))); have n1_ := Aside0.mk (below_step (by repeat (first | (with_reducible first | exact HB.out | apply below_alloc | apply pw_below_drewN | apply below_drew1) | exact HB.out)) hb); clear HB; have HO279 := n0_; have HB := n1_; clear n0_ n1_; (try clear hb); (try clear hb2); (try clear hk); (try clear hi); (try clear ho0); obtain ⟨Ao36, co36, eo36⟩ := Kd.R_slice HO279.out; subst eo36) | ((with_reducible refine gate_callee (f := 11) rfl ?_); refine goesL_ (some 14) rfl rfl Tryz.func11 (by kernel_rfl) rfl #[.int .i64 1, .slice Ao36 t275.length co36] rfl (by (try simp only [List.map_toArray, List.map_cons, List.map_nil]); first | done | rfl | (simp only [List.length_drop, List.length_take]; rfl)) ?_; (with_reducible refine (diff_Make.calls k 1 _ _ t275 t280 t281 t282 _ ?side1 ?side2 ?side3 A2.out).mono ?_); (case side1 => exact GW.below (by repeat (first | (with_reducible first | exact HB.out | apply below_alloc | apply pw_below_drewN | apply below_drew1) | exact HB.out)) HG.out); (case side2 => repeat (first | exact (Kd.R_reads' HO279.out).2.2 | (with_reducible refine Kd.C_alloc ?_ _) | (with_reducible refine Kd.C_drewN ?_ _) | (with_reducible refine Kd.C_drew ?_))); (case side3 => exact (Kd.R_reads' HO279.out).2.1); rintro e w37 ⟨v283, rfl, ho0, hb⟩; refine ⟨_, rfl, ?_⟩; have n0_ := Aside0.mk (Kd.R_below (by (with_reducible repeat (first | apply Kd.R_alloc | apply Kd.R_drewN | apply Kd.R_drew)); exact HO279.out) hb); have n1_ := Aside0.mk (Kd.R_lower ho0 (below_size (by repeat (first | (with_reducible first | exact HB.out | apply below_alloc | apply pw_below_drewN | apply below_drew1) | exact HB.out)))); have n2_ := Aside0.mk (below_step (by repeat (first | (with_reducible first | exact HB.out | apply below_alloc | apply pw_below_drewN | apply below_drew1) | exact HB.out)) hb); clear HO279; clear HB; have HO279 := n0_; have HO284 := n1_; have HB := n2_; clear n0_ n1_ n2_; (try clear hb); (try clear hb2); (try clear hk); (try clear hi); (try clear ho0)))
        go_ret
        exact ⟨by first | rfl | (simp [errW_none, errW_some] <;> rfl) | (simp [*, errW_none, errW_some] <;> rfl), by repeat (first | (with_reducible first | exact HB.out | apply below_alloc | apply pw_below_drewN | apply below_drew1) | exact HB.out)⟩
    · rw [if_neg c4] at H
      have c4b0 : (t276 == 18) = false := beq_eq_false_iff_ne.mpr c4
      have c4b1 : (t276 != 18) = true := bne_iff_ne.mpr c4
      obtain rfl := Option.some.inj H
      go_enter Tryz.func9, Tryz.ntmps9
      go_wp2_with (first | ((with_reducible refine gate_callee (f := 15) rfl ?_); refine goesL_ (some 8) rfl rfl Tryz.func15 (by kernel_rfl) rfl #[.string (⟨#[91, 32, 54, 53, 32, 47, 66, 32, 47, 67, 32, 57, 55, 32, 47, 97, 32, 93]⟩ : ByteArray)] rfl (by (try simp only [List.map_toArray, List.map_cons, List.map_nil]); first | done | rfl | (simp only [List.length_drop, List.length_take]; rfl)) ?_; (with_reducible refine (diff_Parse.calls k (⟨#[91, 32, 54, 53, 32, 47, 66, 32, 47, 67, 32, 57, 55, 32, 47, 97, 32, 93]⟩ : ByteArray) t275 t276 t277 _ ?side1 A1.out).mono ?_); (case side1 => exact GW.below (by repeat (first | (with_reducible first | exact HB.out | apply below_alloc | apply pw_below_drewN | apply below_drew1) | exact HB.out)) HG.out); rintro e w38 ⟨v278, rfl, ho0, hb⟩; refine ⟨_, rfl, ?_⟩; have n0_ := Aside0.mk (Kd.R_lower ho0 (below_size (by repeat (first | (with_reducible first | exact HB.out | apply below_alloc | apply pw_below_drewN | apply below_drew1) | exact HB.out)))); have n1_ := Aside0.mk (below_step (by repeat (first | (with_reducible first | exact HB.out | apply below_alloc | apply pw_below_drewN | apply below_drew1) | exact HB.out)) hb); clear HB; have HO279 := n0_; have HB := n1_; clear n0_ n1_; (try clear hb); (try clear hb2); (try clear hk); (try clear hi); (try clear ho0); obtain ⟨Ao39, co39, eo39⟩ := Kd.R_slice HO279.out; subst eo39) | ((with_reducible refine gate_callee (f := 11) rfl ?_); refine goesL_ (some 14) rfl rfl Tryz.func11 (by kernel_rfl) rfl #[.int .i64 1, .slice Ao39 t275.length co39] rfl (by (try simp only [List.map_toArray, List.map_cons, List.map_nil]); first | done | rfl | (simp only [List.length_drop, List.length_take]; rfl)) ?_; (with_reducible refine (diff_Make.calls k 1 _ _ t275 t280 t281 t282 _ ?side1 ?side2 ?side3 A2.out).mono ?_); (case side1 => exact GW.below (by repeat (first | (with_reducible first | exact HB.out | apply below_alloc | apply pw_below_drewN | apply below_drew1) | exact HB.out)) HG.out); (case side2 => repeat (first | exact (Kd.R_reads' HO279.out).2.2 | (with_reducible refine Kd.C_alloc ?_ _) | (with_reducible refine Kd.C_drewN ?_ _) | (with_reducible refine Kd.C_drew ?_))); (case side3 => exact (Kd.R_reads' HO279.out).2.1); rintro e w40 ⟨v283, rfl, ho0, hb⟩; refine ⟨_, rfl, ?_⟩; have n0_ := Aside0.mk (Kd.R_below (by (with_reducible repeat (first | apply Kd.R_alloc | apply Kd.R_drewN | apply Kd.R_drew)); exact HO279.out) hb); have n1_ := Aside0.mk (Kd.R_lower ho0 (below_size (by repeat (first | (with_reducible first | exact HB.out | apply below_alloc | apply pw_below_drewN | apply below_drew1) | exact HB.out)))); have n2_ := Aside0.mk (below_step (by repeat (first | (with_reducible first | exact HB.out | apply below_alloc | apply pw_below_drewN | apply below_drew1) | exact HB.out)) hb); clear HO279; clear HB; have HO279 := n0_; have HO284 := n1_; have HB := n2_; clear n0_ n1_ n2_; (try clear hb); (try clear hb2); (try clear hk); (try clear hi); (try clear ho0)))
      go_ret
      exact ⟨by first | rfl | (simp [errW_none, errW_some] <;> rfl) | (simp [*, errW_none, errW_some] <;> rfl), by repeat (first | (with_reducible first | exact HB.out | apply below_alloc | apply pw_below_drewN | apply below_drew1) | exact HB.out)⟩
  · rw [if_neg c3] at H
    have c3b0 : (t277 == 0) = false := beq_eq_false_iff_ne.mpr c3
    have c3b1 : (t277 != 0) = true := bne_iff_ne.mpr c3
    obtain rfl := Option.some.inj H
    go_enter Tryz.func9, Tryz.ntmps9
    go_wp2_with (first | ((with_reducible refine gate_callee (f := 15) rfl ?_); refine goesL_ (some 8) rfl rfl Tryz.func15 (by kernel_rfl) rfl #[.string (⟨#[91, 32, 54, 53, 32, 47, 66, 32, 47, 67, 32, 57, 55, 32, 47, 97, 32, 93]⟩ : ByteArray)] rfl (by (try simp only [List.map_toArray, List.map_cons, List.map_nil]); first | done | rfl | (simp only [List.length_drop, List.length_take]; rfl)) ?_; (with_reducible refine (diff_Parse.calls k (⟨#[91, 32, 54, 53, 32, 47, 66, 32, 47, 67, 32, 57, 55, 32, 47, 97, 32, 93]⟩ : ByteArray) t275 t276 t277 _ ?side1 A1.out).mono ?_); (case side1 => exact GW.below (by repeat (first | (with_reducible first | exact HB.out | apply below_alloc | apply pw_below_drewN | apply below_drew1) | exact HB.out)) HG.out); rintro e w41 ⟨v278, rfl, ho0, hb⟩; refine ⟨_, rfl, ?_⟩; have n0_ := Aside0.mk (Kd.R_lower ho0 (below_size (by repeat (first | (with_reducible first | exact HB.out | apply below_alloc | apply pw_below_drewN | apply below_drew1) | exact HB.out)))); have n1_ := Aside0.mk (below_step (by repeat (first | (with_reducible first | exact HB.out | apply below_alloc | apply pw_below_drewN | apply below_drew1) | exact HB.out)) hb); clear HB; have HO279 := n0_; have HB := n1_; clear n0_ n1_; (try clear hb); (try clear hb2); (try clear hk); (try clear hi); (try clear ho0); obtain ⟨Ao42, co42, eo42⟩ := Kd.R_slice HO279.out; subst eo42) | ((with_reducible refine gate_callee (f := 11) rfl ?_); refine goesL_ (some 14) rfl rfl Tryz.func11 (by kernel_rfl) rfl #[.int .i64 1, .slice Ao42 t275.length co42] rfl (by (try simp only [List.map_toArray, List.map_cons, List.map_nil]); first | done | rfl | (simp only [List.length_drop, List.length_take]; rfl)) ?_; (with_reducible refine (diff_Make.calls k 1 _ _ t275 t280 t281 t282 _ ?side1 ?side2 ?side3 A2.out).mono ?_); (case side1 => exact GW.below (by repeat (first | (with_reducible first | exact HB.out | apply below_alloc | apply pw_below_drewN | apply below_drew1) | exact HB.out)) HG.out); (case side2 => repeat (first | exact (Kd.R_reads' HO279.out).2.2 | (with_reducible refine Kd.C_alloc ?_ _) | (with_reducible refine Kd.C_drewN ?_ _) | (with_reducible refine Kd.C_drew ?_))); (case side3 => exact (Kd.R_reads' HO279.out).2.1); rintro e w43 ⟨v283, rfl, ho0, hb⟩; refine ⟨_, rfl, ?_⟩; have n0_ := Aside0.mk (Kd.R_below (by (with_reducible repeat (first | apply Kd.R_alloc | apply Kd.R_drewN | apply Kd.R_drew)); exact HO279.out) hb); have n1_ := Aside0.mk (Kd.R_lower ho0 (below_size (by repeat (first | (with_reducible first | exact HB.out | apply below_alloc | apply pw_below_drewN | apply below_drew1) | exact HB.out)))); have n2_ := Aside0.mk (below_step (by repeat (first | (with_reducible first | exact HB.out | apply below_alloc | apply pw_below_drewN | apply below_drew1) | exact HB.out)) hb); clear HO279; clear HB; have HO279 := n0_; have HO284 := n1_; have HB := n2_; clear n0_ n1_ n2_; (try clear hb); (try clear hb2); (try clear hk); (try clear hi); (try clear ho0)))
    go_ret
    exact ⟨by first | rfl | (simp [errW_none, errW_some] <;> rfl) | (simp [*, errW_none, errW_some] <;> rfl), by repeat (first | (with_reducible first | exact HB.out | apply below_alloc | apply pw_below_drewN | apply below_drew1) | exact HB.out)⟩
end Go.Proofs.YtdcldaknmenklaaGreatDoor.M
end
