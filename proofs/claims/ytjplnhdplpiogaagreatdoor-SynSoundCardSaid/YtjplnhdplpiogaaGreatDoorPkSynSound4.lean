/- Packed by this session's program hbpack.py out of this claim's own texts (Bd, Q65, Q117, Q96, Pl, Q42, Q68, Q69, Q43, Q95, Q70, Q72, Q44, Is, Q73, Q45, Q27, Q16, Q19, Q8, Q9): the same declarations, without those that the claim does not use. -/
import Derived.Test.YtjplnhdplpiogaaGreatDoorPkSynSound3
import Derived.Lib.FrozenHead2
import Derived.Lib.OthersKept
import Derived.Lib.Builder
import Derived.Lib.AppendStr
import Derived.Lib.UnsafeStr
import Derived.Laws.Externs
import Derived.Laws.IdiomCopy
import Derived.Shelf.Strings.SlTrimAscii
import Derived.WalkMore
import Derived.ScopeJumps
import Derived.LaidEql
import Derived.Stop.Asserts
import Derived.RowKitTokens
import Derived.Deep.RegionLaw
import Derived.Deep.RegionWith
import Derived.Deep.RegionHeld3
section
namespace Go.Proofs.YtjplnhdplpiogaaGreatDoor.M
open Go.RowKit Go.Proofs.YtjplnhdplpiogaaGreatDoorW.PrintWords
set_option linter.unusedVariables false
theorem bd_size : (Tryz.prog.info? 109).map (·.size) = some 2 := by kernel_rfl
theorem bd_lies : liesAt Tryz.prog Tryz.prog.depth 109 (2 / Tryz.prog.cellsOf 109) 0 109 1 = true := by kernel_rfl
theorem bd_byte : (Tryz.prog.info? 5).map (fun i => (i.zero, i.size, i.bytes)) = some (some (.int .u8 0), 1, 1) := by kernel_rfl
/-- A builder of the call's own, in block b, that holds the bytes l. -/
abbrev IsBd (B b : Nat) (l : List UInt8) (w : World) : Prop := Lib.IsBuilderF 109 5 B b (Lib.byteCells l) w
set_option maxHeartbeats 1000000 in
set_option maxRecDepth 100000 in
theorem copyCheck_used (b : Nat) (w : World) (h0 : w.cell? ⟨b, 0, none⟩ = some (.pointer (some ⟨b, 0, none⟩))) :
  Calls Tryz.prog 93 #[.pointer (some ⟨b, 0, none⟩)] w fun e w' => e = .returned (.tuple #[]) ∧ w' = w := by
 obtain ⟨j, hj, _⟩ := Option.map_eq_some_iff.1 bd_size
 go_enter Tryz.func93, Tryz.ntmps93
 go_wp2
 rw [Lib.run_neq_ptr_same w _ Tryz.underlying107 hj]
 go_wp2
 go_end0
 exact ⟨rfl, rfl⟩
set_option maxHeartbeats 1000000 in
set_option maxRecDepth 100000 in
theorem copyCheck_fresh (b : Nat) (w : World) (h0 : w.cell? ⟨b, 0, none⟩ = some (.pointer none)) (hsh : w.shape? b = some (109, 2)) (hfz : w.frozen? ⟨b, 0, none⟩ = false) :
  Calls Tryz.prog 93 #[.pointer (some ⟨b, 0, none⟩)] w fun e w' => e = .returned (.tuple #[]) ∧ w' = w.setCell ⟨b, 0, none⟩ (.pointer (some ⟨b, 0, none⟩)) := by
 obtain ⟨j, hj, hjs⟩ := Option.map_eq_some_iff.1 bd_size
 go_enter Tryz.func93, Tryz.ntmps93
 go_wp2
 rw [Lib.run_to_unsafe w ⟨b, 0, none⟩ Tryz.underlying107 Tryz.underlying156 hj (by rw [hjs]; decide) hsh (Nat.zero_lt_succ 1)]
 simp only [Result.andThen]
 rw [Oper.upon_value]
 go_wp2
 rw [run_callFunc_extern Tryz.func115 (by kernel_rfl) (by kernel_rfl) (by kernel_rfl) (e := Extern.AbiNoEscape.same) (by kernel_rfl)]
 rw [Lib.run_noEscape]
 simp only [Result.andThen]
 rw [Oper.upon_value]
 go_wp2
 rw [Lib.run_from_unsafe w ⟨b, 0, none⟩ Tryz.underlying156 Tryz.underlying107 hj hsh bd_lies]
 simp only [Result.andThen]
 rw [Oper.upon_value]
 go_wp2
 go_end0
 exact ⟨rfl, rfl⟩
theorem copyCheck_k (B b : Nat) (bs : List Value) (w : World) (h : Lib.IsBuilderF 109 5 B b bs w) :
  Calls Tryz.prog 93 #[.pointer (some ⟨b, 0, none⟩)] w fun e w' => e = .returned (.tuple #[]) ∧ (Lib.BuilderAtF 109 5 B b (.pointer (some ⟨b, 0, none⟩)) bs w' ∧ Below B w w' ∧ Lib.OthersKept 5 (some b) w w') := by
 rcases h with h | h
 ·refine (copyCheck_fresh b w h.cell0 h.shape h.frozen0).mono ?_
  rintro e w' ⟨rfl, rfl⟩
  exact ⟨rfl, h.used _, (Below.refl B w).setCell (p := ⟨b, 0, none⟩) h.1 _, (Lib.OthersKept.refl _ _ w).setCell ⟨b, 0, none⟩ rfl _⟩
 ·refine (copyCheck_used b w h.cell0).mono ?_
  rintro e w' ⟨rfl, rfl⟩
  exact ⟨rfl, h, Below.refl B _, Lib.OthersKept.refl _ _ _⟩
set_option maxHeartbeats 2000000 in
set_option maxRecDepth 100000 in
theorem WriteByte_k (B b : Nat) (bs : List Value) (c : Int) (w : World) (h : Lib.IsBuilderF 109 5 B b bs w) (hlen : bs.length + 1 ≤ 140737488355328) (hBw : B ≤ w.heap.size) :
  Calls Tryz.prog 66 #[.pointer (some ⟨b, 0, none⟩), .int .u8 c] w fun e w' => e = .returned .nilIface ∧ (Lib.BuilderAtF 109 5 B b (.pointer (some ⟨b, 0, none⟩)) (bs ++ [.int .u8 c]) w' ∧ Below B w w' ∧ Lib.OthersKept 5 (some b) w w') := by
 obtain ⟨i0, hi, hz0, hz1, hz2⟩ := info_parts bd_byte
 go_enter Tryz.func66, Tryz.ntmps66
 go_wp2_with (go_at_call 93; refine (copyCheck_k B b bs _ h).mono ?_)
 rintro e w1 ⟨rfl, h1, hb1, hk1⟩
 obtain ⟨hB, v, hbk, hown, hne⟩ := h1
 have c0 : w1.cell? ⟨b, 0, none⟩ = some (.pointer (some ⟨b, 0, none⟩)) := by rw [Lib.cell_of_heap hbk]; rfl
 have c1 : w1.cell? ⟨b, 1, none⟩ = some v := by rw [Lib.cell_of_heap hbk]; rfl
 go_wp2_with (at_builtin; refine wpList_append_ownF _ rfl _ _ 52 rfl B 5 i0 (.int .u8 0) 1 1 Tryz.underlying52 hi hz0 hz1 hz2 rfl (by decide) _ _ _ rfl (hown.alloc _) ⟨w1.heap.size, 0, none⟩ 1 1 [.int .u8 c] rfl rfl ?c1 ?c2 ?c3 ?c4 ?c5 ?_)
 case c1 =>
  intro j u hj
  match j, hj with
  | 0, hj => simp at hj; subst hj; simp [Addr.add]
 case c2 => intro u hu; simp at hu; subst hu; rfl
 case c3 => unfold maxLen; omega
 case c4 => omega
 case c5 => have := hb1.size; simp; omega
 intro v' w2 hown' hgrow _
 have hlt : b < w1.heap.size := by
  rcases Nat.lt_or_ge b w1.heap.size with h' | h'
  ·exact h'
  ·simp [Array.getElem?_eq_none h'] at hbk
 have hb2 : w2.heap[b]? = some (.cells #[.pointer (some ⟨b, 0, none⟩), v] 109 (0, 0)) := by
  rw [hgrow.block b (by simp; omega) (fun e => hne e.symm), Lib.alloc_old w1 _ b hlt]
  exact hbk
 have d0 : w2.cell? ⟨b, 0, none⟩ = some (.pointer (some ⟨b, 0, none⟩)) := by rw [Lib.cell_of_heap hb2]; rfl
 have d1 : w2.cell? ⟨b, 1, none⟩ = some v := by rw [Lib.cell_of_heap hb2]; rfl
 have f1 : w2.frozen? ⟨b, 1, none⟩ = false := Lib.frozen_of_heap hb2 1
 obtain ⟨g, cap, rfl⟩ : ∃ g cap, v' = .slice (some ⟨g, 0, none⟩) (bs.length + 1) cap := by
  rcases hown'.2 with ⟨_, h0⟩ | ⟨g, cap, cur, fz, hv, _⟩
  ·omega
  ·exact ⟨g, cap, hv⟩
 go_wp2
 go_ret
 refine ⟨rfl, ?_, ?_, ((hk1.alloc _).grown hgrow (Lib.ownsRowF_kind (hown.alloc _))).setCell ⟨b, 1, none⟩ rfl _⟩
 ·exact Lib.BuilderAtF.put (T := 109) (e := 5) hB hb2 (bs' := bs ++ [.int .u8 c]) (by simpa using hown') (by decide)
 ·exact ((hb1.alloc (by have := hb1.size; omega) _).grown hgrow (by have := hb1.size; simp; omega) (fun k hk => (hown.lt k hk).1)).setCell (p := ⟨b, 1, none⟩) hB _
set_option maxHeartbeats 2000000 in
set_option maxRecDepth 100000 in
theorem WriteString_k (B b : Nat) (bs : List Value) (s : ByteArray) (w : World) (h : Lib.IsBuilderF 109 5 B b bs w) (hlen : bs.length + s.size ≤ 140737488355328) (hBw : B ≤ w.heap.size) :
  Calls Tryz.prog 71 #[.pointer (some ⟨b, 0, none⟩), .string s] w fun e w' => e = .returned (.tuple #[.int .i64 s.size, .nilIface]) ∧ (Lib.BuilderAtF 109 5 B b (.pointer (some ⟨b, 0, none⟩)) (bs ++ Lib.strCells s) w' ∧ Below B w w' ∧ Lib.OthersKept 5 (some b) w w') := by
 obtain ⟨i0, hi, hz0, hz1, hz2⟩ := info_parts bd_byte
 go_enter Tryz.func71, Tryz.ntmps71
 go_wp2_with (go_at_call 93; refine (copyCheck_k B b bs _ h).mono ?_)
 rintro e w1 ⟨rfl, h1, hb1, hk1⟩
 obtain ⟨hB, v, hbk, hown, hne⟩ := h1
 have c0 : w1.cell? ⟨b, 0, none⟩ = some (.pointer (some ⟨b, 0, none⟩)) := by rw [Lib.cell_of_heap hbk]; rfl
 have c1 : w1.cell? ⟨b, 1, none⟩ = some v := by rw [Lib.cell_of_heap hbk]; rfl
 go_wp2_with (at_builtin; refine Lib.wpList_append_own_stringF _ rfl _ _ 52 9 rfl B 5 i0 Tryz.underlying52 Tryz.underlying9 hi hz0 hz1 hz2 _ _ _ rfl hown s rfl ?c3 ?c4 ?c5 ?_)
 case c3 => unfold maxLen; omega
 case c4 => omega
 case c5 => have := hb1.size; omega
 intro v' w2 hown' hgrow _
 have hlt : b < w1.heap.size := by
  rcases Nat.lt_or_ge b w1.heap.size with h' | h'
  ·exact h'
  ·simp [Array.getElem?_eq_none h'] at hbk
 have hb2 : w2.heap[b]? = some (.cells #[.pointer (some ⟨b, 0, none⟩), v] 109 (0, 0)) := by
  rw [hgrow.block b hlt (fun e => hne e.symm)]
  exact hbk
 have d0 : w2.cell? ⟨b, 0, none⟩ = some (.pointer (some ⟨b, 0, none⟩)) := by rw [Lib.cell_of_heap hb2]; rfl
 have d1 : w2.cell? ⟨b, 1, none⟩ = some v := by rw [Lib.cell_of_heap hb2]; rfl
 have f1 : w2.frozen? ⟨b, 1, none⟩ = false := Lib.frozen_of_heap hb2 1
 obtain ⟨ao, n', cap, rfl⟩ : ∃ ao n' cap, v' = .slice ao n' cap := by
  rcases hown'.2 with ⟨hv, _⟩ | ⟨g, cap, cur, fz, hv, _⟩
  ·exact ⟨_, _, _, hv⟩
  ·exact ⟨_, _, _, hv⟩
 go_wp2
 go_ret2
 refine ⟨rfl, ?_, ?_, (hk1.grown hgrow (Lib.ownsRowF_kind hown)).setCell ⟨b, 1, none⟩ rfl _⟩
 ·exact Lib.BuilderAtF.put (T := 109) (e := 5) hB hb2 (bs' := bs ++ Lib.strCells s) (by simpa [Lib.strCells_length] using hown') (by decide)
 ·exact (hb1.grown hgrow (by have := hb1.size; omega) (fun k hk => (hown.lt k hk).1)).setCell (p := ⟨b, 1, none⟩) hB _
theorem IsBd.below {B b : Nat} {l : List UInt8} {w w' : World} (h : IsBd B b l w) (hb : Below w.heap.size w w') : IsBd B b l w' := by
 have key : ∀ p, Lib.BuilderAtF 109 5 B b p (Lib.byteCells l) w → Lib.BuilderAtF 109 5 B b p (Lib.byteCells l) w' := by
  rintro p ⟨hB, v, hbk, hown, hne⟩
  have hlt : b < w.heap.size := (Array.getElem?_eq_some_iff.1 hbk).1
  refine ⟨hB, v, (hb.block b hlt).trans hbk, hown.kept (row := none) (grown_of_below hb none) (by cases v.ownBlock <;> simp), hne⟩
 rcases h with h | h
 ·exact .inl (key _ h)
 ·exact .inr (key _ h)
end Go.Proofs.YtjplnhdplpiogaaGreatDoor.M
end
section
namespace Go.Proofs.YtjplnhdplpiogaaGreatDoor.M
open Go.RowKit Go.Proofs.YtjplnhdplpiogaaGreatDoorW.PrintWords Go.Proofs.YtjplnhdplpiogaaGreatDoorW.PrintLast Go.Proofs.YtjplnhdplpiogaaGreatDoorW.PrintMore
attribute [local go_sem] max2_int min2_int max_two min_two max_three min_three max_four min_four
set_option linter.unusedVariables false
set_option linter.unusedSimpArgs false
def hex_Digit.j0 : Nat → Int → Bool → Option (Int × Bool)
 | 0, _, _ => none
 | k + 1, x0, x10 => if x10 = true then (if (wrap64 (x0 - 32)) < 48 then (some (0, false)) else (if (wrap64 (x0 - 32)) > 70 then (some (0, false)) else ((strings_IndexByte.f (⟨#[48, 49, 50, 51, 52, 53, 54, 55, 56, 57, 65, 66, 67, 68, 69, 70]⟩ : ByteArray) ((wrap64 (x0 - 32)) % 256)).bind fun t116 => (some (mx t116 0, decide (t116 ≥ 0)))))) else (if x0 < 48 then (some (0, false)) else (if x0 > 70 then (some (0, false)) else ((strings_IndexByte.f (⟨#[48, 49, 50, 51, 52, 53, 54, 55, 56, 57, 65, 66, 67, 68, 69, 70]⟩ : ByteArray) ((x0) % 256)).bind fun t117 => (some (mx t117 0, decide (t117 ≥ 0))))))
def hex_Digit.f (k : Nat) (a0 : Int) : Option (Int × Bool) := if a0 ≥ 97 then (hex_Digit.j0 k a0 (decide (a0 ≤ 102))) else (hex_Digit.j0 k a0 false)
theorem hex_Digit.mono_l : ∀ k, (∀ y0 y1, LeO (hex_Digit.j0 k y0 y1) (hex_Digit.j0 (k + 1) y0 y1))
 | 0 => fun _ _ r h => by simp [hex_Digit.j0] at h
 | k + 1 => by
  have ih0 := hex_Digit.mono_l k
  ·intro y0 y1
   unfold hex_Digit.j0
   repeat' first
   | (with_reducible exact ih0 _ _)
   | (with_reducible exact LeO.refl _)
   | (with_reducible exact LeO.none _)
   | (with_reducible refine LeO.ite ?_ ?_)
   | (with_reducible refine LeO.bind ?_ (fun _ => ?_))
   | exact ih0 _ _
   | exact LeO.none _
   | refine LeO.ite ?_ ?_
   | refine LeO.bind ?_ (fun _ => ?_)
theorem hex_Digit.mono : ∀ a0 k, LeO (hex_Digit.f k a0) (hex_Digit.f (k + 1) a0) := by
 intro a0 k
 have ih0 := hex_Digit.mono_l k
 unfold hex_Digit.f
 repeat' first
   | (with_reducible exact ih0 _ _)
   | (with_reducible exact LeO.refl _)
   | (with_reducible exact LeO.none _)
   | (with_reducible refine LeO.ite ?_ ?_)
   | (with_reducible refine LeO.bind ?_ (fun _ => ?_))
   | exact ih0 _ _
   | exact LeO.none _
   | refine LeO.ite ?_ ?_
   | refine LeO.bind ?_ (fun _ => ?_)
set_option maxHeartbeats 8000000 in
set_option maxRecDepth 100000 in
theorem hex_Digit.calls (k : Nat) (a0 : Int) (r1 : Int) (r2 : Bool) (w : World) (h : hex_Digit.f k a0 = some (r1, r2)) :
  Calls Tryz.prog 65 #[.int .i64 a0] w fun e w' => e = .returned (.tuple #[.int .i64 r1, .bool r2]) ∧ Below w.heap.size w w' := by
 have HB := aM (Below.refl w.heap.size w)
 have H : (if a0 ≥ 97 then (hex_Digit.j0 k a0 (decide (a0 ≤ 102))) else (hex_Digit.j0 k a0 false)) = some (r1, r2) := h
 clear h
 have HC2 := aM H
 clear H
 go_enter Tryz.func65, Tryz.ntmps65
 go_upto_region 1 with (fail)
 go_cut [10] (fun v10 wc => ∃ (kq : Nat) (x10_1 : Bool), v10 = .bool x10_1 ∧ Aside0 (hex_Digit.j0 kq a0 x10_1 = some (r1, r2)) ∧ Aside0 (kq ≤ k) ∧ Aside0 (Below w.heap.size w wc))
 case first =>
  have H := HC2.out
  clear HC2
  refine iNc H ?_ ?_<;>clear H<;>intro H c3
  ·have c3b0 : decide (97 ≤ a0) = true := decide_eq_true c3
   clear c3
   (first | rw [c3b0] | (simp only [i64_w, i32_w]; rw [c3b0]) | skip)
   have H' := aM H
   clear H
   go_wp2
   go_meet
   case rel => exact ⟨_, (decide (a0 ≤ 102)), vQ, H', ⟨by first | omega | exact Nat.le_refl _⟩, ⟨bQ⟩⟩
  have c3b0 : decide (97 ≤ a0) = false := decide_eq_false c3
  clear c3
  (first | rw [c3b0] | (simp only [i64_w, i32_w]; rw [c3b0]) | skip)
  have H' := aM H
  clear H
  go_wp2
  go_meet
  case rel => exact ⟨_, (false), vQ, H', ⟨by first | omega | exact Nat.le_refl _⟩, ⟨bQ⟩⟩
 case rest =>
  clear HC2
  try clear p2
  try clear c3
  try clear c3b0
  obtain ⟨kq, x10_1, rfl, HA, HJ1, HB⟩ := hcut
  cases kq with
  | zero => exact absurd HA.out (by simp [hex_Digit.j0])
  | succ kj1 =>
   have H := HA.out
   clear HA
   simp only [hex_Digit.j0] at H
   by_cases c4 : x10_1 = true
   ·subst c4
    rw [if_pos rfl] at H
    refine iD H ?_ ?_<;>clear H<;>intro H c5b0
    ·simp only [Option.some.injEq, Prod.mk.injEq] at H
     obtain ⟨rfl, rfl⟩ := H
     go_wp2
     go_ret2
     exact ⟨eQ, bQ⟩
    refine iNc H ?_ ?_<;>clear H<;>intro H c6
    ·have c6b0 : decide (70 < (wrap64 (a0 - 32))) = true := decide_eq_true c6
     clear c6
     simp only [Option.some.injEq, Prod.mk.injEq] at H
     obtain ⟨rfl, rfl⟩ := H
     go_wp2
     go_ret2
     exact ⟨eQ, bQ⟩
    have c6b0 : decide (70 < (wrap64 (a0 - 32))) = false := decide_eq_false c6
    clear c6
    replace H := bS H
    obtain ⟨t116, A7, H⟩ := H
    try dsimp only at H
    obtain ⟨ji8, hji8⟩ : ∃ j_ : Int, (mx t116 0) = j_ := ⟨_, rfl⟩
    replace H : (some (ji8, decide (t116 ≥ 0))) = some (r1, r2) := by first | (rw [hji8] at H; exact H) | (simp only [hji8] at H ⊢; exact H)
    (try rw [hji8] at A7)
    (try (have hji8l : 0 ≤ ji8 := by (rw [← hji8]; unfold mx; (repeat' split) <;> omega)))
    (try (have hji8m : 0 ≤ ji8 := by omega))
    have hji8_ : (if t116 < 0 then 0 else t116) = ji8 := hji8
    simp only [Option.some.injEq, Prod.mk.injEq] at H
    obtain ⟨rfl, rfl⟩ := H
    go_wp2_with (first | ((with_reducible refine gC 60 ?_); refine gL (some 21) Tryz.func60 #[.string (⟨#[48, 49, 50, 51, 52, 53, 54, 55, 56, 57, 65, 66, 67, 68, 69, 70]⟩ : ByteArray), .int .u8 ((wrap64 (a0 - 32)) % 256)] ?_; (with_reducible refine (strings_IndexByte.calls (⟨#[48, 49, 50, 51, 52, 53, 54, 55, 56, 57, 65, 66, 67, 68, 69, 70]⟩ : ByteArray) ((wrap64 (a0 - 32)) % 256) t116 _ A7.out).mono ?_); rintro e w' ⟨rfl, ⟨nd, rfl⟩⟩; refine ⟨_, rfl, ?_⟩))
    go_ret2
    exact ⟨by first | rfl | (simp [errW_none, errW_some] <;> rfl) | (simp only [← hji8]; first | rfl | (simp [errW_none, errW_some] <;> rfl)) | (simp [*, errW_none, errW_some] <;> rfl), bQ⟩
   replace c4 := Bool.eq_false_iff.mpr c4
   subst c4
   rw [if_neg (show ¬ (false = true) by decide)] at H
   refine iD H ?_ ?_<;>clear H<;>intro H c9b0
   ·simp only [Option.some.injEq, Prod.mk.injEq] at H
    obtain ⟨rfl, rfl⟩ := H
    go_wp2
    go_ret2
    exact ⟨eQ, bQ⟩
   refine iNc H ?_ ?_<;>clear H<;>intro H c10
   ·have c10b0 : decide (70 < a0) = true := decide_eq_true c10
    clear c10
    simp only [Option.some.injEq, Prod.mk.injEq] at H
    obtain ⟨rfl, rfl⟩ := H
    go_wp2
    go_ret2
    exact ⟨eQ, bQ⟩
   have c10b0 : decide (70 < a0) = false := decide_eq_false c10
   clear c10
   replace H := bS H
   obtain ⟨t117, A11, H⟩ := H
   try dsimp only at H
   obtain ⟨ji12, hji12⟩ : ∃ j_ : Int, (mx t117 0) = j_ := ⟨_, rfl⟩
   replace H : (some (ji12, decide (t117 ≥ 0))) = some (r1, r2) := by first | (rw [hji12] at H; exact H) | (simp only [hji12] at H ⊢; exact H)
   (try rw [hji12] at A11)
   (try (have hji12l : 0 ≤ ji12 := by (rw [← hji12]; unfold mx; (repeat' split) <;> omega)))
   (try (have hji12m : 0 ≤ ji12 := by omega))
   have hji12_ : (if t117 < 0 then 0 else t117) = ji12 := hji12
   simp only [Option.some.injEq, Prod.mk.injEq] at H
   obtain ⟨rfl, rfl⟩ := H
   go_wp2_with (first | ((with_reducible refine gC 60 ?_); refine gL (some 21) Tryz.func60 #[.string (⟨#[48, 49, 50, 51, 52, 53, 54, 55, 56, 57, 65, 66, 67, 68, 69, 70]⟩ : ByteArray), .int .u8 ((a0) % 256)] ?_; (with_reducible refine (strings_IndexByte.calls (⟨#[48, 49, 50, 51, 52, 53, 54, 55, 56, 57, 65, 66, 67, 68, 69, 70]⟩ : ByteArray) ((a0) % 256) t117 _ A11.out).mono ?_); rintro e w' ⟨rfl, ⟨nd, rfl⟩⟩; refine ⟨_, rfl, ?_⟩))
   go_ret2
   exact ⟨by first | rfl | (simp [errW_none, errW_some] <;> rfl) | (simp only [← hji12]; first | rfl | (simp [errW_none, errW_some] <;> rfl)) | (simp [*, errW_none, errW_some] <;> rfl), bQ⟩
end Go.Proofs.YtjplnhdplpiogaaGreatDoor.M
end
section
namespace Go.Proofs.YtjplnhdplpiogaaGreatDoor.M
open Go.RowKit Go.Proofs.YtjplnhdplpiogaaGreatDoorW.PrintWords
set_option linter.unusedVariables false
def isDigB (c : UInt8) : Bool := decide (48 ≤ c.toNat) && decide (c.toNat ≤ 57)
def tenDigits : List UInt8 := [48, 49, 50, 51, 52, 53, 54, 55, 56, 57]
theorem ten_contains (c : UInt8) : tenDigits.contains c = isDigB c := by
 have : ∀ n : Fin 256, tenDigits.contains n.val.toUInt8 = isDigB n.val.toUInt8 := by decide +kernel
 have h := this ⟨c.toNat, c.toNat_lt⟩
 simpa using h
theorem dropWhile_nil (p : UInt8 → Bool) : ∀ l : List UInt8, l.dropWhile p = [] ↔ ∀ c ∈ l, p c = true
 | [] => by simp
 | x :: l => by
  rw [List.dropWhile_cons]
  split
  ·rename_i hx
   rw [dropWhile_nil p l]
   simp [hx]
  ·rename_i hx
   simp [hx]
theorem trim_nil (l : List UInt8) : (Lib.trimS l tenDigits = []) ↔ l.all isDigB = true := by
 unfold Lib.trimS Lib.trimLeftS Lib.trimRightS
 have e : (fun x => tenDigits.contains x) = isDigB := funext ten_contains
 rw [e]
 constructor
 ·intro h
  rw [dropWhile_nil] at h
  rw [List.all_eq_true]
  intro c hc
  by_cases hd : isDigB c = true
  ·exact hd
  ·have key : ∀ m : List UInt8, c ∈ m → c ∈ m.dropWhile isDigB := by
    intro m
    induction m with
    | nil => intro h; exact h
    | cons x m ih =>
     intro hm
     rw [List.dropWhile_cons]
     split
     ·rename_i hx
      rcases List.mem_cons.1 hm with rfl | hm
      ·exact absurd hx hd
      ·exact ih hm
     ·exact hm
   exact h c (by rw [List.mem_reverse]; exact key _ (List.mem_reverse.2 hc))
 ·intro h
  rw [List.all_eq_true] at h
  have : l.reverse.dropWhile isDigB = [] := by
   rw [dropWhile_nil]
   intro c hc
   exact h c (List.mem_reverse.1 hc)
  rw [this]; rfl
def strings_Trim.f (a0 a1 : ByteArray) : Option ByteArray := if a0.size ≤ 9223372036854775807 then (if a1.size < 4294967281 then (if a1.data.toList.all (fun b => decide (b.toNat < 128)) = true then some ⟨(Lib.trimS a0.data.toList a1.data.toList).toArray⟩ else none) else none) else none
theorem strings_Trim.calls (a0 a1 : ByteArray) (r : ByteArray) (w : World) (h : strings_Trim.f a0 a1 = some r) :
  Calls Tryz.prog 117 #[.string a0, .string a1] w fun e w' => e = .returned (.string r) ∧ Below w.heap.size w w' := by
 unfold strings_Trim.f at h
 split at h
 case isFalse => cases h
 rename_i h1
 split at h
 case isFalse => cases h
 rename_i h2
 split at h
 case isFalse => cases h
 rename_i h3
 obtain rfl := Option.some.inj h
 exact Any.strings_Trim_laid Tryz.lays160 (by kernel_rfl) a0 a1 w h1 h2 (ascii_of_all h3)
end Go.Proofs.YtjplnhdplpiogaaGreatDoor.M
end
section
namespace Go.Proofs.YtjplnhdplpiogaaGreatDoor.M
open Go.RowKit Go.Proofs.YtjplnhdplpiogaaGreatDoorW.PrintWords Go.Proofs.YtjplnhdplpiogaaGreatDoorW.PrintLast Go.Proofs.YtjplnhdplpiogaaGreatDoorW.PrintMore
attribute [local go_sem] max2_int min2_int max_two min_two max_three min_three max_four min_four
set_option linter.unusedVariables false
set_option linter.unusedSimpArgs false
def lex_whole.f (a0 : ByteArray) : Option (Bool) := if a0.toList = ([] : List UInt8) then (some false) else (if 0 < (a0.size : Int) then (if (bt a0 0) = 43 then (if 1 ≤ (a0.size : Int) then (if (a0.extract 1 a0.size).toList = ([] : List UInt8) then (some false) else ((strings_Trim.f (a0.extract 1 a0.size) (⟨#[48, 49, 50, 51, 52, 53, 54, 55, 56, 57]⟩ : ByteArray)).bind fun t145 => (some (t145.toList == ([] : List UInt8))))) else (none)) else (if (bt a0 0) = 45 then (if 1 ≤ (a0.size : Int) then (if (a0.extract 1 a0.size).toList = ([] : List UInt8) then (some false) else ((strings_Trim.f (a0.extract 1 a0.size) (⟨#[48, 49, 50, 51, 52, 53, 54, 55, 56, 57]⟩ : ByteArray)).bind fun t146 => (some (t146.toList == ([] : List UInt8))))) else (none)) else ((strings_Trim.f a0 (⟨#[48, 49, 50, 51, 52, 53, 54, 55, 56, 57]⟩ : ByteArray)).bind fun t147 => (some (t147.toList == ([] : List UInt8)))))) else (none))
set_option maxHeartbeats 8000000 in
set_option maxRecDepth 100000 in
theorem lex_whole.calls (a0 : ByteArray) (r : Bool) (w : World) (h : lex_whole.f a0 = some r) :
  Calls Tryz.prog 96 #[.string a0] w fun e w' => e = .returned (.bool r) ∧ Below w.heap.size w w' := by
 have HB := aM (Below.refl w.heap.size w)
 have H : (if a0.toList = ([] : List UInt8) then (some false) else (if 0 < (a0.size : Int) then (if (bt a0 0) = 43 then (if 1 ≤ (a0.size : Int) then (if (a0.extract 1 a0.size).toList = ([] : List UInt8) then (some false) else ((strings_Trim.f (a0.extract 1 a0.size) (⟨#[48, 49, 50, 51, 52, 53, 54, 55, 56, 57]⟩ : ByteArray)).bind fun t145 => (some (t145.toList == ([] : List UInt8))))) else (none)) else (if (bt a0 0) = 45 then (if 1 ≤ (a0.size : Int) then (if (a0.extract 1 a0.size).toList = ([] : List UInt8) then (some false) else ((strings_Trim.f (a0.extract 1 a0.size) (⟨#[48, 49, 50, 51, 52, 53, 54, 55, 56, 57]⟩ : ByteArray)).bind fun t146 => (some (t146.toList == ([] : List UInt8))))) else (none)) else ((strings_Trim.f a0 (⟨#[48, 49, 50, 51, 52, 53, 54, 55, 56, 57]⟩ : ByteArray)).bind fun t147 => (some (t147.toList == ([] : List UInt8)))))) else (none))) = some r := h
 clear h
 refine iEc H ?_ ?_<;>clear H<;>intro H c2b0 c2b1 c2
 ·clear c2
  obtain rfl := Option.some.inj H
  go_enter Tryz.func96, Tryz.ntmps96
  go_wp2
  go_ret
  exact ⟨eQ, bQ⟩
 refine iDc H ?_ ?_<;>clear H<;>intro H c3b0 c3
 rotate_left
 ·exact absurd H (by simp)
 have c3b1 : decide (0 < a0.size) = true := decide_eq_true (by omega)
 clear c3
 refine iEc H ?_ ?_<;>clear H<;>intro H c5b0 c5b1 c5
 ·clear c5
  refine iNc H ?_ ?_<;>clear H<;>intro H c6
  rotate_left
  ·exact absurd H (by simp)
  have c6b0 := eq_true c6
  have c6b1 : decide (1 ≤ (a0.size : Int)) = true := decide_eq_true c6
  clear c6
  refine iEc H ?_ ?_<;>clear H<;>intro H c7b0 c7b1 c7
  ·clear c7
   obtain rfl := Option.some.inj H
   have p4 : 0 ≤ (0 : Int) := (by omega)
   have q4 : 0 < a0.size := (by have : (0 : Int) < (a0.size : Int) := of_decide_eq_true hQ; omega)
   have hx4 : ∀ h : 0 < a0.size, ((a0[0]'h).toNat : Int) = bt a0 0 := bt_at a0 0
   clear p4
   have qi4 : (0 < (a0.size : Int)) = True := eq_true (of_decide_eq_true hQ)
   replace q4 := eq_true q4
   go_enter Tryz.func96, Tryz.ntmps96
   go_wp2
   go_ret
   exact ⟨eQ, bQ⟩
  replace H := bS H
  obtain ⟨t145, A8, H⟩ := H
  try dsimp only at H
  obtain rfl := Option.some.inj H
  have p4 : 0 ≤ (0 : Int) := (by omega)
  have q4 : 0 < a0.size := (by have : (0 : Int) < (a0.size : Int) := of_decide_eq_true hQ; omega)
  have hx4 : ∀ h : 0 < a0.size, ((a0[0]'h).toNat : Int) = bt a0 0 := bt_at a0 0
  clear p4
  have qi4 : (0 < (a0.size : Int)) = True := eq_true (of_decide_eq_true hQ)
  replace q4 := eq_true q4
  go_enter Tryz.func96, Tryz.ntmps96
  go_wp2_with (first | (go_at_call 117; (with_reducible refine (strings_Trim.calls (a0.extract 1 a0.size) (⟨#[48, 49, 50, 51, 52, 53, 54, 55, 56, 57]⟩ : ByteArray) t145 _ A8.out).mono ?_); rintro e w9 ⟨rfl, hb⟩; replace HB := sB hb; clear hb))
  go_ret
  exact ⟨eQ, bQ⟩
 refine iEc H ?_ ?_<;>clear H<;>intro H c11b0 c11b1 c11
 rotate_left
 ·replace H := bS H
  obtain ⟨t147, A16, H⟩ := H
  try dsimp only at H
  obtain rfl := Option.some.inj H
  have p4 : 0 ≤ (0 : Int) := (by omega)
  have q4 : 0 < a0.size := (by have : (0 : Int) < (a0.size : Int) := of_decide_eq_true hQ; omega)
  have hx4 : ∀ h : 0 < a0.size, ((a0[0]'h).toNat : Int) = bt a0 0 := bt_at a0 0
  clear p4
  have qi4 : (0 < (a0.size : Int)) = True := eq_true (of_decide_eq_true hQ)
  replace q4 := eq_true q4
  have p10 : 0 ≤ (0 : Int) := (by omega)
  have q10 : 0 < a0.size := (by have : (0 : Int) < (a0.size : Int) := of_decide_eq_true hQ; omega)
  have hx10 : ∀ h : 0 < a0.size, ((a0[0]'h).toNat : Int) = bt a0 0 := bt_at a0 0
  clear p10
  have qi10 : (0 < (a0.size : Int)) = True := eq_true (of_decide_eq_true hQ)
  replace q10 := eq_true q10
  go_enter Tryz.func96, Tryz.ntmps96
  go_wp2_with (first | (go_at_call 117; (with_reducible refine (strings_Trim.calls a0 (⟨#[48, 49, 50, 51, 52, 53, 54, 55, 56, 57]⟩ : ByteArray) t147 _ A16.out).mono ?_); rintro e w17 ⟨rfl, hb⟩; replace HB := sB hb; clear hb))
  go_ret
  exact ⟨eQ, bQ⟩
 clear c11
 refine iNc H ?_ ?_<;>clear H<;>intro H c12
 rotate_left
 ·exact absurd H (by simp)
 have c12b0 := eq_true c12
 have c12b1 : decide (1 ≤ (a0.size : Int)) = true := decide_eq_true c12
 clear c12
 refine iEc H ?_ ?_<;>clear H<;>intro H c13b0 c13b1 c13
 ·clear c13
  obtain rfl := Option.some.inj H
  have p4 : 0 ≤ (0 : Int) := (by omega)
  have q4 : 0 < a0.size := (by have : (0 : Int) < (a0.size : Int) := of_decide_eq_true hQ; omega)
  have hx4 : ∀ h : 0 < a0.size, ((a0[0]'h).toNat : Int) = bt a0 0 := bt_at a0 0
  clear p4
  have qi4 : (0 < (a0.size : Int)) = True := eq_true (of_decide_eq_true hQ)
  replace q4 := eq_true q4
  have p10 : 0 ≤ (0 : Int) := (by omega)
  have q10 : 0 < a0.size := (by have : (0 : Int) < (a0.size : Int) := of_decide_eq_true hQ; omega)
  have hx10 : ∀ h : 0 < a0.size, ((a0[0]'h).toNat : Int) = bt a0 0 := bt_at a0 0
  clear p10
  have qi10 : (0 < (a0.size : Int)) = True := eq_true (of_decide_eq_true hQ)
  replace q10 := eq_true q10
  go_enter Tryz.func96, Tryz.ntmps96
  go_wp2
  go_ret
  exact ⟨eQ, bQ⟩
 replace H := bS H
 obtain ⟨t146, A14, H⟩ := H
 try dsimp only at H
 obtain rfl := Option.some.inj H
 have p4 : 0 ≤ (0 : Int) := (by omega)
 have q4 : 0 < a0.size := (by have : (0 : Int) < (a0.size : Int) := of_decide_eq_true hQ; omega)
 have hx4 : ∀ h : 0 < a0.size, ((a0[0]'h).toNat : Int) = bt a0 0 := bt_at a0 0
 clear p4
 have qi4 : (0 < (a0.size : Int)) = True := eq_true (of_decide_eq_true hQ)
 replace q4 := eq_true q4
 have p10 : 0 ≤ (0 : Int) := (by omega)
 have q10 : 0 < a0.size := (by have : (0 : Int) < (a0.size : Int) := of_decide_eq_true hQ; omega)
 have hx10 : ∀ h : 0 < a0.size, ((a0[0]'h).toNat : Int) = bt a0 0 := bt_at a0 0
 clear p10
 have qi10 : (0 < (a0.size : Int)) = True := eq_true (of_decide_eq_true hQ)
 replace q10 := eq_true q10
 go_enter Tryz.func96, Tryz.ntmps96
 go_wp2_with (first | (go_at_call 117; (with_reducible refine (strings_Trim.calls (a0.extract 1 a0.size) (⟨#[48, 49, 50, 51, 52, 53, 54, 55, 56, 57]⟩ : ByteArray) t146 _ A14.out).mono ?_); rintro e w15 ⟨rfl, hb⟩; replace HB := sB hb; clear hb))
 go_ret
 exact ⟨eQ, bQ⟩
end Go.Proofs.YtjplnhdplpiogaaGreatDoor.M
end
section
namespace Go.Proofs.YtjplnhdplpiogaaGreatDoor.M
open Go.RowKit Go.Proofs.YtjplnhdplpiogaaGreatDoorW.PrintWords
set_option linter.unusedVariables false
/-- A hex digit's value. -/
def hexVal (c : Int) : Option Int := if 48 ≤ c ∧ c ≤ 57 then some (c - 48) else if 65 ≤ c ∧ c ≤ 70 then some (c - 55) else if 97 ≤ c ∧ c ≤ 102 then some (c - 87) else none
theorem digit_eq {k : Nat} (hk : 1 ≤ k) (c : Int) (h0 : 0 ≤ c) (h1 : c ≤ 255) : hex_Digit.f k c = some ((hexVal c).getD 0, (hexVal c).isSome) := by
 have : ∀ n : Fin 256, hex_Digit.f 1 (n.val : Int) = some ((hexVal n.val).getD 0, (hexVal n.val).isSome) := by decide +kernel
 have h := this ⟨c.toNat, by omega⟩
 have e : ((c.toNat : Nat) : Int) = c := by omega
 simp only [e] at h
 exact le_rounds (g := fun k => hex_Digit.f k c) (fun k => hex_Digit.mono c k) h hk
/-- A text is a sign or none, and digits. -/
def unsign (l : List UInt8) : List UInt8 := match l with
 | [] => []
 | c :: r => if c == 43 || c == 45 then r else c :: r
def wholeB (l : List UInt8) : Bool := !(unsign l).isEmpty && (unsign l).all isDigB
theorem trim_ten (a : ByteArray) (ha : a.size ≤ 9223372036854775807) : strings_Trim.f a ⟨#[48, 49, 50, 51, 52, 53, 54, 55, 56, 57]⟩ = some ⟨(Lib.trimS a.data.toList tenDigits).toArray⟩ := by
 unfold strings_Trim.f
 rw [if_pos ha, if_pos (by decide), if_pos (by decide)]
 rfl
theorem trim_test (a : ByteArray) : ((⟨(Lib.trimS a.data.toList tenDigits).toArray⟩ : ByteArray).toList == ([] : List UInt8)) = a.data.toList.all isDigB := by
 rw [toList_data]
 rw [Bool.eq_iff_iff, beq_iff_eq]
 exact trim_nil _
theorem whole_eq (a : ByteArray) (ha : a.size ≤ 9223372036854775807) : lex_whole.f a = some (wholeB a.data.toList) := by
 unfold lex_whole.f wholeB
 have hs : a.size = a.data.toList.length := rfl
 rw [toList_data]
 match hl : a.data.toList with
 | [] => simp [unsign]
 | c :: r =>
  rw [if_neg (by simp), if_pos (by rw [hs, hl]; simp)]
  have hb : bt a 0 = (c.toNat : Int) := by
   have := bt_get a 0 (by rw [hs, hl]; simp)
   simpa [hl] using this
  have hx : a.extract 1 a.size = ⟨r.toArray⟩ := by rw [ext_from, hl]; rfl
  have hxs : (⟨r.toArray⟩ : ByteArray).size ≤ 9223372036854775807 := by
   show r.toArray.size ≤ _
   rw [hs, hl] at ha
   simp at ha ⊢; omega
  have hxl : (⟨r.toArray⟩ : ByteArray).data.toList = r := by simp
  have h1 : (1 : Int) ≤ (a.size : Int) := by rw [hs, hl]; simp; omega
  rw [hb, hx, toList_data, hxl]
  have t1 := trim_ten ⟨r.toArray⟩ hxs
  have t2 := trim_ten a ha
  have u1 := trim_test ⟨r.toArray⟩
  have u2 := trim_test a
  rw [hxl] at u1
  rw [t1, t2]
  simp only [Option.bind_some]
  by_cases e1 : c = 43
  ·subst e1
   rw [if_pos (by rfl), if_pos h1]
   cases r with
   | nil => rfl
   | cons x y => rw [if_neg (by simp), u1]; simp [unsign]
  ·have n1 : ¬ (c.toNat : Int) = 43 := by
    intro h; apply e1; exact UInt8.toNat_inj.1 (by simpa using (show c.toNat = 43 by omega))
   rw [if_neg n1]
   by_cases e2 : c = 45
   ·subst e2
    rw [if_pos (by rfl), if_pos h1]
    cases r with
    | nil => rfl
    | cons x y => rw [if_neg (by simp), u1]; simp [unsign]
   ·have n2 : ¬ (c.toNat : Int) = 45 := by
     intro h; apply e2; exact UInt8.toNat_inj.1 (by simpa using (show c.toNat = 45 by omega))
    rw [if_neg n2, u2, hl]
    simp [unsign, e1, e2]
/-- A written name's bytes. -/
def nameGo : List UInt8 → List UInt8
 | [] => []
 | c :: [] => [c]
 | c :: a :: [] => [c, a]
 | c :: a :: b :: r => if c == 35 && (hexVal a.toNat).isSome && (hexVal b.toNat).isSome then (((hexVal a.toNat).getD 0 * 16 + (hexVal b.toNat).getD 0).toNat.toUInt8) :: nameGo r else c :: nameGo (a :: b :: r)
def lex_Name.f (a0 : ByteArray) : Option ByteArray := if a0.size ≤ 140737488355328 then some ⟨(nameGo a0.data.toList).toArray⟩ else none
theorem nameGo_plain (c : UInt8) (l : List UInt8) (h : (c == 35) = false) : nameGo (c :: l) = c :: nameGo l := by
 match l with
 | [] => rfl
 | [a] => rfl
 | a :: b :: r => rw [nameGo, h]; rfl
theorem nameGo_short (c : UInt8) (l : List UInt8) (h : l.length < 2) : nameGo (c :: l) = c :: nameGo l := by
 match l, h with
 | [], _ => rfl
 | [a], _ => rfl
theorem nameGo_no (c a b : UInt8) (l : List UInt8) (h : ((hexVal a.toNat).isSome && (hexVal b.toNat).isSome) = false) : nameGo (c :: a :: b :: l) = c :: nameGo (a :: b :: l) := by
 rw [nameGo, Bool.and_assoc, h, Bool.and_false]; rfl
theorem nameGo_yes (a b : UInt8) (l : List UInt8) (x y : Int) (ha : hexVal a.toNat = some x) (hb : hexVal b.toNat = some y) : nameGo (35 :: a :: b :: l) = (x * 16 + y).toNat.toUInt8 :: nameGo l := by
 rw [nameGo, ha, hb]; rfl
theorem drop_cons (s : ByteArray) (i : Nat) (h : i < s.size) : s.data.toList.drop i = s[i] :: s.data.toList.drop (i + 1) := by
 rw [List.drop_eq_getElem_cons (by simpa using h)]; rfl
theorem hexVal_range (c : Int) (x : Int) (h : hexVal c = some x) : 0 ≤ x ∧ x ≤ 15 := by
 unfold hexVal at h
 split at h
 ·simp at h; omega
 ·split at h
  ·simp at h; omega
  ·split at h
   ·simp at h; omega
   ·cases h
theorem or_digits (x y : Int) (hx : 0 ≤ x ∧ x ≤ 15) (hy : 0 ≤ y ∧ y ≤ 15) : Go.bits .or .i64 (x * 16) y = x * 16 + y := by
 have : ∀ a b : Fin 16, Go.bits .or .i64 ((a.val : Int) * 16) (b.val : Int) = (a.val : Int) * 16 + (b.val : Int) := by decide +kernel
 have h := this ⟨x.toNat, by omega⟩ ⟨y.toNat, by omega⟩
 have e1 : ((x.toNat : Nat) : Int) = x := by omega
 have e2 : ((y.toNat : Nat) : Int) = y := by omega
 simpa [e1, e2] using h
set_option maxHeartbeats 1000000 in
set_option maxRecDepth 1000000 in
theorem lex_Name.calls (a0 : ByteArray) (r : ByteArray) (w : World) (h : lex_Name.f a0 = some r) :
  Calls Tryz.prog 42 #[.string a0] w fun e w' => e = .returned (.string r) ∧ Below w.heap.size w w' := by
 unfold lex_Name.f at h
 split at h
 case isFalse => cases h
 rename_i hl
 obtain rfl := Option.some.inj h
 clear h
 go_enter Tryz.func42, Tryz.ntmps42
 go_wp2
 go_loopw [4] (fun i wr => ∃ (k : Nat) (acc : List UInt8), k ≤ a0.size ∧ acc.length ≤ k ∧ i = .int .i64 k ∧ Aside0 (acc ++ nameGo (a0.data.toList.drop k) = nameGo a0.data.toList) ∧ IsBd w.heap.size w.heap.size acc wr ∧ Below w.heap.size w wr) (fun i wr => a0.size - (intOf i).toNat)
 case atStart =>
  refine ⟨0, [], Nat.zero_le _, Nat.le_refl _, rfl, ⟨rfl⟩, (Lib.IsBuilderF.of (Lib.fresh_isBuilder _ _ w)), (Below.refl _ w).alloc (Nat.le_refl _) _⟩
 case round =>
  obtain ⟨k, acc, hk, hal, rfl, HA, hI, hbw⟩ := hrel
  by_cases hlt : k < a0.size
  ·have HD := Aside0.mk (drop_cons a0 k hlt)
   by_cases hc : (a0[k].toNat : Int) = 35
   ·have t1 : ((a0[k].toNat : Int) == 35) = true := by simpa using hc
    have hc' : a0[k] = 35 := by
     have : a0[k].toNat = 35 := by omega
     exact UInt8.toNat_inj.1 (by simpa using this)
    have HC := Aside0.mk hc'
    clear hc hc'
    by_cases hi2 : k + 2 < a0.size
    ·have hlt1 : k + 1 < a0.size := by omega
     have d1 := a0[k + 1].toNat_lt
     have d2 := a0[k + 2].toNat_lt
     have HD1 := Aside0.mk (drop_cons a0 (k + 1) hlt1)
     have HD2 := Aside0.mk (drop_cons a0 (k + 2) hi2)
     have c1 := digit_eq (Nat.le_refl 1) (a0[k + 1].toNat : Int) (by omega) (by omega)
     have c2 := digit_eq (Nat.le_refl 1) (a0[k + 2].toNat : Int) (by omega) (by omega)
     cases hv1 : hexVal (a0[k + 1].toNat : Int) with
     | none =>
      have hn := nameGo_no a0[k] a0[k + 1] a0[k + 2] (a0.data.toList.drop (k + 2 + 1)) (by rw [hv1]; rfl)
      rw [← HD2.out, ← HD1.out, ← HD.out] at hn
      have HN := Aside0.mk hn
      rw [hv1] at c1
      simp only [Option.getD_none, Option.isSome_none] at c1
      have C1 := Aside0.mk c1
      have C2 := Aside0.mk c2
      clear c1 c2 hn hv1
      go_wp2_with (go_at_call 65; with_reducible refine (hex_Digit.calls 1 _ _ _ _ C1.out).mono ?_)
      rintro e w1 ⟨rfl, hd⟩
      replace hI := hI.below hd
      replace hbw := below_then hbw hbw.size hd
      clear hd
      go_wp2_with (go_at_call 65; with_reducible refine (hex_Digit.calls 1 _ _ _ _ C2.out).mono ?_)
      rintro e w1 ⟨rfl, hd⟩
      replace hI := hI.below hd
      replace hbw := below_then hbw hbw.size hd
      clear hd
      go_wp2_with (go_at_call 66; with_reducible refine (WriteByte_k w.heap.size w.heap.size _ _ _ hI ?_ ?_).mono ?_)
      ·rw [Lib.byteCells_length]; omega
      ·exact hbw.size
      rintro e W2 ⟨rfl, h2, b2, k2⟩
      go_wp2
      go_roundw
      case rel => exact ⟨k + 1, acc ++ [a0[k]], by omega, by simp; omega, by go_num, ⟨by rw [← HA.out, HN.out]; simp⟩, by rw [IsBd, Lib.byteCells_append]; exact .inr h2, hbw.trans b2⟩
      case measure => simp [intOf]; omega
     | some x =>
      cases hv2 : hexVal (a0[k + 2].toNat : Int) with
      | none =>
       have hn := nameGo_no a0[k] a0[k + 1] a0[k + 2] (a0.data.toList.drop (k + 2 + 1)) (by rw [hv2]; exact Bool.and_false _)
       rw [← HD2.out, ← HD1.out, ← HD.out] at hn
       have HN := Aside0.mk hn
       rw [hv1] at c1
       rw [hv2] at c2
       simp only [Option.getD_none, Option.isSome_none] at c2
       simp only [Option.getD_some, Option.isSome_some] at c1
       have C1 := Aside0.mk c1
       have C2 := Aside0.mk c2
       clear c1 c2 hn hv1 hv2
       go_wp2_with (go_at_call 65; with_reducible refine (hex_Digit.calls 1 _ _ _ _ C1.out).mono ?_)
       rintro e w1 ⟨rfl, hd⟩
       replace hI := hI.below hd
       replace hbw := below_then hbw hbw.size hd
       clear hd
       go_wp2_with (go_at_call 65; with_reducible refine (hex_Digit.calls 1 _ _ _ _ C2.out).mono ?_)
       rintro e w1 ⟨rfl, hd⟩
       replace hI := hI.below hd
       replace hbw := below_then hbw hbw.size hd
       clear hd
       go_wp2_with (go_at_call 66; with_reducible refine (WriteByte_k w.heap.size w.heap.size _ _ _ hI ?_ ?_).mono ?_)
       ·rw [Lib.byteCells_length]; omega
       ·exact hbw.size
       rintro e W2 ⟨rfl, h2, b2, k2⟩
       go_wp2
       go_roundw
       case rel => exact ⟨k + 1, acc ++ [a0[k]], by omega, by simp; omega, by go_num, ⟨by rw [← HA.out, HN.out]; simp⟩, by rw [IsBd, Lib.byteCells_append]; exact .inr h2, hbw.trans b2⟩
       case measure => simp [intOf]; omega
      | some y =>
       have hn := nameGo_yes a0[k + 1] a0[k + 2] (a0.data.toList.drop (k + 2 + 1)) x y hv1 hv2
       rw [← HD2.out, ← HD1.out, ← HC.out, ← HD.out] at hn
       have HN := Aside0.mk hn
       have rx := hexVal_range _ _ hv1
       have ry := hexVal_range _ _ hv2
       have ho := or_digits x y rx ry
       rw [hv1] at c1
       rw [hv2] at c2
       simp only [Option.getD_some, Option.isSome_some] at c1 c2
       have C1 := Aside0.mk c1
       have C2 := Aside0.mk c2
       clear c1 c2 hn hv1 hv2
       go_wp2_with (go_at_call 65; with_reducible refine (hex_Digit.calls 1 _ _ _ _ C1.out).mono ?_)
       rintro e w1 ⟨rfl, hd⟩
       replace hI := hI.below hd
       replace hbw := below_then hbw hbw.size hd
       clear hd
       go_wp2_with (go_at_call 65; with_reducible refine (hex_Digit.calls 1 _ _ _ _ C2.out).mono ?_)
       rintro e w1 ⟨rfl, hd⟩
       replace hI := hI.below hd
       replace hbw := below_then hbw hbw.size hd
       clear hd
       go_wp2_with (go_at_call 66; with_reducible refine (WriteByte_k w.heap.size w.heap.size _ _ _ hI ?_ ?_).mono ?_)
       ·rw [Lib.byteCells_length]; omega
       ·exact hbw.size
       rintro e W2 ⟨rfl, h2, b2, k2⟩
       go_wp2
       go_roundw
       case rel =>
        refine ⟨k + 3, acc ++ [(x * 16 + y).toNat.toUInt8], by omega, by simp; omega, by go_num, ⟨by rw [← HA.out, HN.out]; simp⟩, ?_, hbw.trans b2⟩
        rw [IsBd, Lib.byteCells_append]
        have e8 : Lib.byteCells [(x * 16 + y).toNat.toUInt8] = [.int .u8 (x * 16 + y)] := by
         simp [Lib.byteCells]; omega
        rw [e8]
        exact .inr h2
       case measure => simp [intOf]; omega
    ·have hn := nameGo_short a0[k] (a0.data.toList.drop (k + 1)) (by rw [List.length_drop, Array.length_toList]; have : a0.data.size = a0.size := rfl; omega)
     rw [← HD.out] at hn
     have HN := Aside0.mk hn
     clear hn
     go_wp2_with (go_at_call 66; with_reducible refine (WriteByte_k w.heap.size w.heap.size _ _ _ hI ?_ ?_).mono ?_)
     ·rw [Lib.byteCells_length]; omega
     ·exact hbw.size
     rintro e W2 ⟨rfl, h2, b2, k2⟩
     go_wp2
     go_roundw
     case rel => exact ⟨k + 1, acc ++ [a0[k]], by omega, by simp; omega, by go_num, ⟨by rw [← HA.out, HN.out]; simp⟩, by rw [IsBd, Lib.byteCells_append]; exact .inr h2, hbw.trans b2⟩
     case measure => simp [intOf]; omega
   ·have t1 : ((a0[k].toNat : Int) == 35) = false := by simpa using hc
    have hn := nameGo_plain a0[k] (a0.data.toList.drop (k + 1)) (by
     rw [beq_eq_false_iff_ne]; intro e; apply hc; rw [e]; rfl)
    rw [← HD.out] at hn
    have HN := Aside0.mk hn
    clear hn hc
    go_wp2_with (go_at_call 66; with_reducible refine (WriteByte_k w.heap.size w.heap.size _ _ _ hI ?_ ?_).mono ?_)
    ·rw [Lib.byteCells_length]; omega
    ·exact hbw.size
    rintro e W2 ⟨rfl, h2, b2, k2⟩
    go_wp2
    go_roundw
    case rel => exact ⟨k + 1, acc ++ [a0[k]], by omega, by simp; omega, by go_num, ⟨by rw [← HA.out, HN.out]; simp⟩, by rw [IsBd, Lib.byteCells_append]; exact .inr h2, hbw.trans b2⟩
    case measure => simp [intOf]; omega
  ·go_wp2_with (go_at_call 67; refine (Tryz.Builder_String_any_k w.heap.size w.heap.size _ _ hI hbw.size).mono ?_)
   rintro e W1 ⟨rfl, _, b1, _⟩
   go_wp2
   go_ret
   have ha := HA.out
   rw [List.drop_of_length_le (by simp; omega)] at ha
   rw [← ha]
   simp only [nameGo, List.append_nil]
   exact ⟨rfl, hbw.trans b1⟩
def strings_Cut.f (a0 a1 : ByteArray) : Option (ByteArray × ByteArray × Bool) := if a0.size < 4294967281 then some (⟨(Lib.cut a0.data.toList a1.data.toList).1.toArray⟩, ⟨(Lib.cut a0.data.toList a1.data.toList).2.1.toArray⟩, (Lib.cut a0.data.toList a1.data.toList).2.2) else none
theorem strings_Cut.calls (a0 a1 : ByteArray) (r1 r2 : ByteArray) (r3 : Bool) (w : World) (hG : GW w) (h : strings_Cut.f a0 a1 = some (r1, r2, r3)) :
  Calls Tryz.prog 68 #[.string a0, .string a1] w fun e w' => e = .returned (.tuple #[.string r1, .string r2, .bool r3]) ∧ Below w.heap.size w w' := by
 unfold strings_Cut.f at h
 split at h
 case isFalse => cases h
 rename_i hb
 have h' := Option.some.inj h
 simp only [Prod.mk.injEq] at h'
 obtain ⟨rfl, rfl, rfl⟩ := h'
 obtain ⟨m, hm⟩ := hG.max
 refine (Tryz.strings_Cut a0 a1 m w hb hm).mono ?_
 rintro e w' ⟨rfl, n, rfl⟩
 exact ⟨rfl, pw_below_drewN (Below.refl _ _) n⟩
end Go.Proofs.YtjplnhdplpiogaaGreatDoor.M
end
section
/- Laid by this session's program hbprint.py out of the translation: the function hornbook/hex.UnHex and its contract. -/
namespace Go.Proofs.YtjplnhdplpiogaaGreatDoor.M
open Go.RowKit Go.Proofs.YtjplnhdplpiogaaGreatDoorW.PrintWords Go.Proofs.YtjplnhdplpiogaaGreatDoorW.PrintLast Go.Proofs.YtjplnhdplpiogaaGreatDoorW.PrintMore
attribute [local go_sem] max2_int min2_int max_two min_two max_three min_three max_four min_four
set_option linter.unusedVariables false
set_option linter.unusedSimpArgs false
mutual
def hex_UnHex.l0 : Nat → ByteArray → List Int → Bool → Int → Int → Option (List Int × Int × Int)
 | 0, _, _, _, _, _ => none
 | k + 1, x0, x5, x6, x11, x12 => if x12 < x11 then (if 0 ≤ x12 then (if x12 < (x0.size : Int) then ((hex_Digit.f k (wrap64 (bt x0 x12))).bind fun bt118 => (if bt118.2 = true then (hex_UnHex.j1 k x0 x5 x6 x12 bt118.1 bt118.2 x11 x12 false) else ((hex_White.f (wrap64 (bt x0 x12))).bind fun t120 => (hex_UnHex.j1 k x0 x5 x6 x12 bt118.1 bt118.2 x11 x12 t120)))) else (none)) else (none)) else (some (x5, (x0.size : Int), 0))
def hex_UnHex.j1 : Nat → ByteArray → List Int → Bool → Int → Int → Bool → Int → Int → Bool → Option (List Int × Int × Int)
 | 0, _, _, _, _, _, _, _, _, _ => none
 | k + 1, x0, x5, x6, x7, x8, x9, x11, x12, x33 => if x33 = true then (hex_UnHex.l0 k x0 x5 x6 x11 (wrap64 (x12 + 1))) else (if x9 = true then (if x6 = true then (if x5.length < 140737488355328 then (hex_UnHex.l0 k x0 (x5 ++ [(wrap64 (x8 * 16)) % 256]) (!x6) x11 (wrap64 (x12 + 1))) else (none)) else (if 0 ≤ (wrap64 ((x5.length : Int) - 1)) then (if (wrap64 ((x5.length : Int) - 1)) < (x5.length : Int) then (hex_UnHex.l0 k x0 (x5.set ((wrap64 ((x5.length : Int) - 1)) : Int).toNat (Go.bits .or .u8 (rd x5 (wrap64 ((x5.length : Int) - 1))) ((x8) % 256))) (!x6) x11 (wrap64 (x12 + 1))) else (none)) else (none))) else (some (([] : List Int), x7, 1)))
end
def hex_UnHex.f (k : Nat) (a0 : ByteArray) : Option (List Int × Int × Int) := hex_UnHex.l0 k a0 ([] : List Int) true (a0.size : Int) 0
theorem hex_UnHex.mono_l : ∀ k, (∀ y0 y1 y2 y3 y4, LeO (hex_UnHex.l0 k y0 y1 y2 y3 y4) (hex_UnHex.l0 (k + 1) y0 y1 y2 y3 y4)) ∧ (∀ y0 y1 y2 y3 y4 y5 y6 y7 y8, LeO (hex_UnHex.j1 k y0 y1 y2 y3 y4 y5 y6 y7 y8) (hex_UnHex.j1 (k + 1) y0 y1 y2 y3 y4 y5 y6 y7 y8))
 | 0 => ⟨fun _ _ _ _ _ r h => by simp [hex_UnHex.l0] at h, fun _ _ _ _ _ _ _ _ _ r h => by simp [hex_UnHex.j1] at h⟩
 | k + 1 => by
  obtain ⟨ih0, ih1⟩ := hex_UnHex.mono_l k
  refine ⟨?_, ?_⟩
  ·intro y0 y1 y2 y3 y4
   unfold hex_UnHex.l0
   repeat' first
   | (with_reducible exact ih0 _ _ _ _ _)
   | (with_reducible exact ih1 _ _ _ _ _ _ _ _ _)
   | (with_reducible exact hex_Digit.mono _ _)
   | (with_reducible exact LeO.refl _)
   | (with_reducible exact LeO.none _)
   | (with_reducible refine LeO.ite ?_ ?_)
   | (with_reducible refine LeO.bind ?_ (fun _ => ?_))
   | exact ih0 _ _ _ _ _
   | exact ih1 _ _ _ _ _ _ _ _ _
   | exact hex_Digit.mono _ _
   | exact LeO.none _
   | refine LeO.ite ?_ ?_
   | refine LeO.bind ?_ (fun _ => ?_)
  ·intro y0 y1 y2 y3 y4 y5 y6 y7 y8
   unfold hex_UnHex.j1
   repeat' first
   | (with_reducible exact ih0 _ _ _ _ _)
   | (with_reducible exact ih1 _ _ _ _ _ _ _ _ _)
   | (with_reducible exact hex_Digit.mono _ _)
   | (with_reducible exact LeO.refl _)
   | (with_reducible exact LeO.none _)
   | (with_reducible refine LeO.ite ?_ ?_)
   | (with_reducible refine LeO.bind ?_ (fun _ => ?_))
   | exact ih0 _ _ _ _ _
   | exact ih1 _ _ _ _ _ _ _ _ _
   | exact hex_Digit.mono _ _
   | exact LeO.none _
   | refine LeO.ite ?_ ?_
   | refine LeO.bind ?_ (fun _ => ?_)
theorem hex_UnHex.mono : ∀ a0 k, LeO (hex_UnHex.f k a0) (hex_UnHex.f (k + 1) a0) := by
 intro a0 k
 obtain ⟨ih0, ih1⟩ := hex_UnHex.mono_l k
 unfold hex_UnHex.f
 repeat' first
   | (with_reducible exact ih0 _ _ _ _ _)
   | (with_reducible exact ih1 _ _ _ _ _ _ _ _ _)
   | (with_reducible exact hex_Digit.mono _ _)
   | (with_reducible exact LeO.refl _)
   | (with_reducible exact LeO.none _)
   | (with_reducible refine LeO.ite ?_ ?_)
   | (with_reducible refine LeO.bind ?_ (fun _ => ?_))
   | exact ih0 _ _ _ _ _
   | exact ih1 _ _ _ _ _ _ _ _ _
   | exact hex_Digit.mono _ _
   | exact LeO.none _
   | refine LeO.ite ?_ ?_
   | refine LeO.bind ?_ (fun _ => ?_)
set_option maxHeartbeats 8000000 in
set_option maxRecDepth 100000 in
theorem hex_UnHex.calls (k : Nat) (a0 : ByteArray) (r1 : List Int) (r2 : Int) (r3 : Int) (w : World) (h : hex_UnHex.f k a0 = some (r1, r2, r3)) :
  Calls Tryz.prog 69 #[.string a0] w fun e w' => ∃ v0_ : Value, e = .returned (.tuple #[v0_, .int .i64 r2, .int .i64 r3]) ∧ Kd.R (Kd.int .u8) 5 w' w.heap.size (fun _ => True) v0_ r1 ∧ Below w.heap.size w w' := by
 have HB := aM (Below.refl w.heap.size w)
 have H : (hex_UnHex.l0 k a0 ([] : List Int) true (a0.size : Int) 0) = some (r1, r2, r3) := h
 clear h
 have H' := aM H
 clear H
 go_enter Tryz.func69, Tryz.ntmps69
 go_wp2
 go_loopg [5, 6, 12] k (fun kq v5 v6 v12 w' => ∃ (x5_1 : List Int) (x6_1 : Bool) (x12_1 : Int), v6 = .bool x6_1 ∧ v12 = .int .i64 x12_1 ∧ Aside0 (hex_UnHex.l0 kq a0 x5_1 x6_1 (a0.size : Int) x12_1 = some (r1, r2, r3)) ∧ Aside0 (kq ≤ k) ∧ Aside0 (Kd.R (Kd.int .u8) 5 w' w.heap.size (fun _ => True) v5 x5_1) ∧ Aside0 (Below w.heap.size w w'))
 case atStart => exact ⟨(([] : List Int)), (true), (0), vQ, vQ, H', ⟨Nat.le_refl _⟩, ⟨by first | exact Kd.R_nil _ _ _ _ _ | exact Kd.N_nil _ _ _ _ _ | exact Kd.V_nil _ _ _ _ _ | exact Kd.Q_nil _ _ _ _ _ | exact Kd.S_nil _ _ _ _ _⟩, ⟨bQ⟩⟩
 case round =>
  clear H'
  obtain ⟨x5_1, x6_1, x12_1, rfl, rfl, HA, HK1, HO_5, HB⟩ := hrel
  cases gk with
  | zero => exact absurd HA.out (by simp [hex_UnHex.l0])
  | succ k1 =>
   have H := HA.out
   clear HA
   simp only [hex_UnHex.l0] at H
   refine iD H ?_ ?_<;>clear H<;>intro H c2b0
   rotate_left
   ·simp only [Option.some.injEq, Prod.mk.injEq] at H
    obtain ⟨rfl, rfl, rfl⟩ := H
    go_wp2
    go_ret3
    exact ⟨_, eQ, mQ HO_5, bQ⟩
   refine iD H ?_ ?_<;>clear H<;>intro H c3b0
   rotate_left
   ·exact absurd H (by simp)
   refine iD H ?_ ?_<;>clear H<;>intro H c4b0
   rotate_left
   ·exact absurd H (by simp)
   replace H := bS H
   obtain ⟨⟨t118, t119⟩, A6, H⟩ := H
   try dsimp only at H
   have HC7 := aM H
   clear H
   have p5 : 0 ≤ (x12_1 : Int) := of_decide_eq_true hQ
   have q5 : x12_1 < (a0.size : Int) := of_decide_eq_true hQ
   have hx5 := bt_at a0 x12_1
   replace p5 := eq_true p5
   replace q5 := eq_true q5
   go_upto_region 8 with (first | ((with_reducible refine gC 65 ?_); refine gL (some 20) Tryz.func65 #[.int .i64 (wrap64 (bt a0 x12_1))] ?_; (with_reducible refine cB (hex_Digit.calls k1 (wrap64 (bt a0 x12_1)) t118 t119 _ A6.out) ?_); intro w8 hb; replace HO_5 := rK HO_5 hb; replace HB := sB hb; clear hb))
   (try simp only [Act.put, List.setIfInBounds_toArray, List.set_cons_zero, List.set_cons_succ])
   go_cut [33] (fun v33 wc => ∃ (kq : Nat) (x33_6 : Bool), v33 = .bool x33_6 ∧ Aside0 (hex_UnHex.j1 kq a0 x5_1 x6_1 x12_1 t118 t119 (a0.size : Int) x12_1 x33_6 = some (r1, r2, r3)) ∧ Aside0 (kq ≤ k1) ∧ Aside0 (Kd.R (Kd.int .u8) 5 wc w.heap.size (fun _ => True) u5 x5_1) ∧ Aside0 (Below w.heap.size w wc))
   case first =>
    have H := HC7.out
    clear HC7
    by_cases c9 : t119 = true
    ·subst c9
     rw [if_pos rfl] at H
     have H' := aM H
     clear H
     go_wp2
     go_meet
     case rel => exact ⟨_, (false), vQ, H', ⟨by have := HK1.out; first | omega | exact Nat.le_refl _⟩, ⟨mQ HO_5⟩, ⟨bQ⟩⟩
    replace c9 := Bool.eq_false_iff.mpr c9
    subst c9
    rw [if_neg (show ¬ (false = true) by decide)] at H
    replace H := bS H
    obtain ⟨t120, A11, H⟩ := H
    try dsimp only at H
    have H' := aM H
    clear H
    have p10 : 0 ≤ (x12_1 : Int) := of_decide_eq_true hQ
    have q10 : x12_1 < (a0.size : Int) := of_decide_eq_true hQ
    have hx10 := bt_at a0 x12_1
    replace p10 := eq_true p10
    replace q10 := eq_true q10
    go_wp2_with (first | (go_at_call 91; (with_reducible refine (hex_White.calls (wrap64 (bt a0 x12_1)) t120 _ A11.out).mono ?_); rintro e w12 ⟨rfl, hb⟩; replace HO_5 := rK HO_5 hb; replace HB := sB hb; clear hb))
    go_meet
    case rel => exact ⟨_, (t120), vQ, H', ⟨by have := HK1.out; first | omega | exact Nat.le_refl _⟩, ⟨mQ HO_5⟩, ⟨bQ⟩⟩
   case rest =>
    clear HC7
    try clear p1
    try clear q1
    try clear hx1
    try clear c2
    try clear c2b0
    try clear p2
    try clear c3
    try clear c3b0
    try clear c4
    try clear c4b0
    try clear p5
    try clear q5
    try clear hx5
    try clear c6
    try clear p6
    try clear c9
    try clear p10
    try clear q10
    try clear hx10
    try clear p10
    try clear p5
    try clear q10
    try clear q5
    obtain ⟨kq, x33_6, rfl, HA, HJ6, HO_5, HB⟩ := hcut
    cases kq with
    | zero => exact absurd HA.out (by simp [hex_UnHex.j1])
    | succ kj6 =>
     have H := HA.out
     clear HA
     simp only [hex_UnHex.j1] at H
     by_cases c13 : x33_6 = true
     ·subst c13
      rw [if_pos rfl] at H
      have H' := aM H
      clear H
      go_wp2
      go_roundg kj6
      case measure => have := HK1.out; have := HJ6.out; omega
      case rel => exact ⟨(x5_1), (x6_1), (wrap64 (x12_1 + 1)), vQ, vQ, H', ⟨by have := HK1.out; have := HJ6.out; omega⟩, ⟨mQ HO_5⟩, ⟨bQ⟩⟩
     replace c13 := Bool.eq_false_iff.mpr c13
     subst c13
     rw [if_neg (show ¬ (false = true) by decide)] at H
     by_cases c14 : t119 = true
     rotate_left
     ·replace c14 := Bool.eq_false_iff.mpr c14
      subst c14
      rw [if_neg (show ¬ (false = true) by decide)] at H
      simp only [Option.some.injEq, Prod.mk.injEq] at H
      obtain ⟨rfl, rfl, rfl⟩ := H
      go_wp2
      go_ret3
      exact ⟨_, eQ, by first | exact Kd.R_nil _ _ _ _ _ | exact Kd.N_nil _ _ _ _ _ | exact Kd.V_nil _ _ _ _ _ | exact Kd.Q_nil _ _ _ _ _ | exact Kd.S_nil _ _ _ _ _, bQ⟩
     subst c14
     rw [if_pos rfl] at H
     by_cases c15 : x6_1 = true
     ·subst c15
      rw [if_pos rfl] at H
      refine iNc H ?_ ?_<;>clear H<;>intro H c16
      rotate_left
      ·exact absurd H (by simp)
      have LMc16 := aM c16
      clear c16
      obtain ⟨y121, hy121⟩ : ∃ y_ : List Int, y_ = (x5_1 ++ [(wrap64 (t118 * 16)) % 256]) := ⟨_, rfl⟩
      replace H : (hex_UnHex.l0 kj6 a0 y121 (!true) (a0.size : Int) (wrap64 (x12_1 + 1))) = some (r1, r2, r3) := by first | (rw [hy121]; with_reducible exact H) | (have H2_ := (Option.bind_some _ _).symm.trans H; rw [hy121]; with_reducible exact H2_) | (have H2_ := (Option.bind_some _ _).symm.trans H; with_reducible exact H2_) | with_reducible exact H | (rw [hy121]; exact H) | exact H
      have Ny121 := aM hy121
      clear hy121
      have H' := aM H
      clear H
      go_wp2_with (first | ((with_reducible refine gate_builtin (b := .append) (xs := #[.tmp 49, .tmp 53]) rfl ?_); at_builtin; refine Kd.R_append (Kd.int .u8) (w0 := w) w.heap.size rfl (.tmp 49) (.tmp 53) 52 5 (.int .u8 0) 1 rfl Tryz.underlying52 info5 rfl (by decide) (by omega) u5 x5_1 ((wrap64 (t118 * 16)) % 256) [.int .u8 ((wrap64 (t118 * 16)) % 256)] (fun _ => True) (fun _ => False) rfl rfl ?aP (fun _ hk => hk.elim) ?aF ?aO ?aB ?aS ?aL ?_; (case aP => exact rfl); (case aB => exact bQ); (case aF => exact (fun _ _ => trivial)); (case aO => exact (mQ HO_5)); (case aS => exact (below_size bQ)); (case aL => have := LMc16.out; omega); intro v122 w17 ho hb hg hat; rw [← Ny121.out] at ho; have n0_ := aM hb; have n1_ := aM ho; clear HB; clear HO_5; have HB := n0_; have HO123 := n1_; clear n0_ n1_; clear ho hb hg hat))
      go_roundg kj6
      case measure => have := HK1.out; have := HJ6.out; omega
      case rel => exact ⟨(y121), (!true), (wrap64 (x12_1 + 1)), vQ, vQ, H', ⟨by have := HK1.out; have := HJ6.out; omega⟩, ⟨mQ HO123⟩, ⟨bQ⟩⟩
     replace c15 := Bool.eq_false_iff.mpr c15
     subst c15
     rw [if_neg (show ¬ (false = true) by decide)] at H
     obtain ⟨ji18, hji18⟩ : ∃ j_ : Int, (wrap64 ((x5_1.length : Int) - 1)) = j_ := ⟨_, rfl⟩
     replace H : (if 0 ≤ (ji18) then (if (ji18) < (x5_1.length : Int) then (hex_UnHex.l0 kj6 a0 (x5_1.set ((ji18) : Int).toNat (Go.bits .or .u8 (rd x5_1 (ji18)) ((t118) % 256))) (!false) (a0.size : Int) (wrap64 (x12_1 + 1))) else (none)) else (none)) = some (r1, r2, r3) := by first | (rw [hji18] at H; exact H) | (simp only [hji18] at H ⊢; exact H)
     have hji18w : (IntKind.i64.wrap ((x5_1.length : Int) - 1)) = ji18 := (i64_w _).trans hji18
     refine iD H ?_ ?_<;>clear H<;>intro H c19b0
     rotate_left
     ·exact absurd H (by simp)
     refine iD H ?_ ?_<;>clear H<;>intro H c20b0
     rotate_left
     ·exact absurd H (by simp)
     obtain ⟨y125, hy125⟩ : ∃ y_ : List Int, y_ = (x5_1.set ((ji18) : Int).toNat (Go.bits .or .u8 (rd x5_1 (ji18)) ((t118) % 256))) := ⟨_, rfl⟩
     replace H : (hex_UnHex.l0 kj6 a0 y125 (!false) (a0.size : Int) (wrap64 (x12_1 + 1))) = some (r1, r2, r3) := by first | (rw [hy125]; with_reducible exact H) | (have H2_ := (Option.bind_some _ _).symm.trans H; rw [hy125]; with_reducible exact H2_) | (have H2_ := (Option.bind_some _ _).symm.trans H; with_reducible exact H2_) | with_reducible exact H | (rw [hy125]; exact H) | exact H
     have Ny125 := aM hy125
     clear hy125
     have H' := aM H
     clear H
     obtain ⟨Ao22, co22, eo22⟩ := Kd.R_slice HO_5.out
     subst eo22
     have p124 : 0 ≤ ((ji18) : Int) := of_decide_eq_true hQ
     have q124 : (ji18) < (x5_1.length : Int) := of_decide_eq_true hQ
     obtain ⟨ad124, e124, hx124_0⟩ := Kd.at_int (Kd.R_reads' HO_5.out).2.2 (ji18) p124 q124
     cases e124
     replace p124 := eq_true p124
     replace q124 := eq_true q124
     have p21 : 0 ≤ ((ji18) : Int) := of_decide_eq_true hQ
     have q21 : ((ji18) : Int) < ((x5_1.length : Int) : Int) := of_decide_eq_true hQ
     obtain ⟨go21, co21, eo21, gb21, gl21, cl21, HG21⟩ := Kd.R_form HO_5.out (by omega)
     (first | cases eo21 | (injection eo21 with ea_ en_ ec_; (first | subst ea_ | (injection ea_ with ea_; subst ea_)); subst ec_; clear en_))
     have GB21 := aM gb21
     have GG21 := aM HG21
     clear gb21 gl21 HG21
     (first | simp only [add_plain] at hx124_0 | skip)
     obtain ⟨hx21_0, hf21_0⟩ := Kd.R_celln 0 HO_5.out ((ji18) : Int) p21 q21
     replace p21 := eq_true p21
     replace q21 := eq_true q21
     have HP23 := Kd.R_putg HO_5.out ((ji18) : Int) (Go.bits .or .u8 (rd x5_1 (ji18)) ((t118) % 256))
     go_wp2_with (first | ((with_reducible refine gate_store (t := 5) (p := 32) rfl ?_); refine store_event (t := 5) (p := 32) (v := ?vo_w24) (w1 := (wc.setCell ⟨go21, ((ji18) : Int).toNat, none⟩ (.int .u8 (Go.bits .or .u8 (rd x5_1 (ji18)) ((t118) % 256))))) ?hg ?ho ?hn ?hr ?_; (case ho => rfl); (case hg => rfl); (case hn => rfl); (case hr => first | (go_simp; done) | (go_simp; rfl)); intro w24 hw; have hg : wc.grownBy w24 (some go21) := (by rw [hw]; exact HP23.2); have hp_ : Kd.R (Kd.int .u8) 5 w24 w.heap.size (fun _ => True) (.slice (some ⟨go21, 0, none⟩) x5_1.length co22) y125 := (by rw [hw, Ny125.out]; exact HP23.1); clear HP23; replace HO_5 := aM (hp_); replace HB := aM ((by rw [hw]; exact below_set (HB.out) GB21.out : Below w.heap.size w w24)); clear hg hw hp_))
     go_roundg kj6
     case measure => have := HK1.out; have := HJ6.out; omega
     case rel => exact ⟨(y125), (!false), (wrap64 (x12_1 + 1)), vQ, vQ, H', ⟨by have := HK1.out; have := HJ6.out; omega⟩, ⟨mQ HO_5⟩, ⟨bQ⟩⟩
end Go.Proofs.YtjplnhdplpiogaaGreatDoor.M
end
section
namespace Go.Proofs.YtjplnhdplpiogaaGreatDoor.M
open Go.RowKit Go.Proofs.YtjplnhdplpiogaaGreatDoorW.PrintWords Go.Proofs.YtjplnhdplpiogaaGreatDoorW.PrintLast Go.Proofs.YtjplnhdplpiogaaGreatDoorW.PrintMore
attribute [local go_sem] max2_int min2_int max_two min_two max_three min_three max_four min_four
set_option linter.unusedVariables false
set_option linter.unusedSimpArgs false
def tok_source_hexed.f (k : Nat) (a0 : ByteArray) (a1 : Int) : Option (Int × Int × Int × ByteArray × Int × Int) := (tok_source_from.f a0 (wrap64 (a1 + 1))).bind fun t127 => ((strings_Cut.f t127 (⟨#[62]⟩ : ByteArray)).bind fun bt128 => (if bt128.2.2 = true then ((hex_UnHex.f k bt128.1).bind fun bt131 => (if bt131.2.2 = 0 then (some (4, a1, 0, strOfNums bt131.1, wrap64 ((wrap64 (a1 + (bt128.1.size : Int))) + 2), 0)) else (some (0, 0, 0, (⟨#[]⟩ : ByteArray), wrap64 ((wrap64 (a1 + 1)) + bt131.2.1), bt131.2.2)))) else (some (0, 0, 0, (⟨#[]⟩ : ByteArray), (a0.size : Int), 2))))
theorem tok_source_hexed.mono : ∀ a0 a1 k, LeO (tok_source_hexed.f k a0 a1) (tok_source_hexed.f (k + 1) a0 a1) := by
 intro a0 a1 k
 unfold tok_source_hexed.f
 repeat' first
   | (with_reducible exact hex_UnHex.mono _ _)
   | (with_reducible exact LeO.refl _)
   | (with_reducible exact LeO.none _)
   | (with_reducible refine LeO.ite ?_ ?_)
   | (with_reducible refine LeO.bind ?_ (fun _ => ?_))
   | exact hex_UnHex.mono _ _
   | exact LeO.none _
   | refine LeO.ite ?_ ?_
   | refine LeO.bind ?_ (fun _ => ?_)
set_option maxHeartbeats 8000000 in
set_option maxRecDepth 100000 in
theorem tok_source_hexed.calls (k : Nat) (a0 : ByteArray) (a1 : Int) (r1 : Int) (r2 : Int) (r3 : Int) (r4 : ByteArray) (r5 : Int) (r6 : Int) (w : World) (hG : GW w) (h : tok_source_hexed.f k a0 a1 = some (r1, r2, r3, r4, r5, r6)) :
  Calls Tryz.prog 43 #[.string a0, .int .i64 a1] w fun e w' => e = .returned (.tuple #[.agg #[.int .i64 r1, .int .i64 r2, .int .i64 r3, .string r4], .int .i64 r5, .int .i64 r6]) ∧ Below w.heap.size w w' := by
 have hu40 := Tryz.underlying40
 have HG := Aside0.mk hG
 clear hG
 have HB := Aside0.mk (Below.refl w.heap.size w)
 have H : ((tok_source_from.f a0 (wrap64 (a1 + 1))).bind fun t127 => ((strings_Cut.f t127 (⟨#[62]⟩ : ByteArray)).bind fun bt128 => (if bt128.2.2 = true then ((hex_UnHex.f k bt128.1).bind fun bt131 => (if bt131.2.2 = 0 then (some (4, a1, 0, strOfNums bt131.1, wrap64 ((wrap64 (a1 + (bt128.1.size : Int))) + 2), 0)) else (some (0, 0, 0, (⟨#[]⟩ : ByteArray), wrap64 ((wrap64 (a1 + 1)) + bt131.2.1), bt131.2.2)))) else (some (0, 0, 0, (⟨#[]⟩ : ByteArray), (a0.size : Int), 2))))) = some (r1, r2, r3, r4, r5, r6) := h
 clear h
 replace H := Option.bind_eq_some_iff.mp H
 obtain ⟨t127, A30, H⟩ := H
 replace H : ((strings_Cut.f t127 (⟨#[62]⟩ : ByteArray)).bind fun bt128 => (if bt128.2.2 = true then ((hex_UnHex.f k bt128.1).bind fun bt131 => (if bt131.2.2 = 0 then (some (4, a1, 0, strOfNums bt131.1, wrap64 ((wrap64 (a1 + (bt128.1.size : Int))) + 2), 0)) else (some (0, 0, 0, (⟨#[]⟩ : ByteArray), wrap64 ((wrap64 (a1 + 1)) + bt131.2.1), bt131.2.2)))) else (some (0, 0, 0, (⟨#[]⟩ : ByteArray), (a0.size : Int), 2)))) = some (r1, r2, r3, r4, r5, r6) := H
 have A3 := Aside0.mk A30
 clear A30
 replace H := Option.bind_eq_some_iff.mp H
 obtain ⟨⟨t128, t129, t130⟩, A40, H⟩ := H
 replace H : (if t130 = true then ((hex_UnHex.f k t128).bind fun bt131 => (if bt131.2.2 = 0 then (some (4, a1, 0, strOfNums bt131.1, wrap64 ((wrap64 (a1 + (t128.size : Int))) + 2), 0)) else (some (0, 0, 0, (⟨#[]⟩ : ByteArray), wrap64 ((wrap64 (a1 + 1)) + bt131.2.1), bt131.2.2)))) else (some (0, 0, 0, (⟨#[]⟩ : ByteArray), (a0.size : Int), 2))) = some (r1, r2, r3, r4, r5, r6) := H
 have A4 := Aside0.mk A40
 clear A40
 by_cases c5 : t130 = true
 ·subst c5
  have H1 : ((hex_UnHex.f k t128).bind fun bt131 => (if bt131.2.2 = 0 then (some (4, a1, 0, strOfNums bt131.1, wrap64 ((wrap64 (a1 + (t128.size : Int))) + 2), 0)) else (some (0, 0, 0, (⟨#[]⟩ : ByteArray), wrap64 ((wrap64 (a1 + 1)) + bt131.2.1), bt131.2.2)))) = some (r1, r2, r3, r4, r5, r6) := by rw [if_pos rfl] at H; exact H
  clear H
  have H := H1
  clear H1
  replace H := Option.bind_eq_some_iff.mp H
  obtain ⟨⟨t131, t132, t133⟩, A60, H⟩ := H
  replace H : (if t133 = 0 then (some (4, a1, 0, strOfNums t131, wrap64 ((wrap64 (a1 + (t128.size : Int))) + 2), 0)) else (some (0, 0, 0, (⟨#[]⟩ : ByteArray), wrap64 ((wrap64 (a1 + 1)) + t132), t133))) = some (r1, r2, r3, r4, r5, r6) := H
  have A6 := Aside0.mk A60
  clear A60
  by_cases c7 : t133 = 0
  ·rw [if_pos c7] at H
   have c7b0 : (t133 == 0) = true := beq_iff_eq.mpr c7
   have c7b1 : (t133 != 0) = false := bne_eq_false_iff_eq.mpr c7
   clear c7
   simp only [Option.some.injEq, Prod.mk.injEq] at H
   obtain ⟨rfl, rfl, rfl, rfl, rfl, rfl⟩ := H
   go_enter Tryz.func43, Tryz.ntmps43
   go_wp2_with (first | ((with_reducible refine gate_dst (N := 4) rfl ?_); refine box_event ?hg (N := 4) ?hd (cs := #[.int .i64 0, .int .i64 0, .int .i64 0, .string (⟨#[]⟩ : ByteArray)]) (t := 40) ?hr ?_; (case hd => rfl); (case hg => rfl); (case hr => first | (go_simp; done) | (go_simp; rfl)); intro gb126 hg w8 hbox hb; have n0_ := Aside0.mk (below_step (by repeat (first | (with_reducible first | exact HB.out | apply below_alloc | apply pw_below_drewN | apply below_drew1) | exact HB.out)) hb); have n1_ := Aside0.mk (hbox); have n2_ := Aside0.mk ((by rw [hg]; exact (below_size (by repeat (first | (with_reducible first | exact HB.out | apply below_alloc | apply pw_below_drewN | apply below_drew1) | exact HB.out))) : w.heap.size ≤ gb126)); have n3_ := Aside0.mk ((by rw [hg]; exact (below_size (by repeat (first | (with_reducible first | exact HB.out | apply below_alloc | apply pw_below_drewN | apply below_drew1) | exact HB.out))) : w.heap.size ≤ gb126)); clear HB; have HB := n0_; have BK126 := n1_; have GW126 := n2_; have GE126 := n3_; clear n0_ n1_ n2_ n3_; clear hb hbox hg) | ((with_reducible refine gate_callee (f := 64) rfl ?_); refine goesL_ (some 17) rfl rfl Tryz.func64 (by kernel_rfl) rfl #[.string a0, .int .i64 (wrap64 (a1 + 1))] rfl (by (try simp only [List.map_toArray, List.map_cons, List.map_nil]); first | done | rfl | (simp only [List.length_drop, List.length_take]; rfl)) ?_; (with_reducible refine (tok_source_from.calls a0 (wrap64 (a1 + 1)) t127 _ A3.out).mono ?_); rintro e w9 ⟨rfl, hb⟩; refine ⟨_, rfl, ?_⟩; have n0_ := Aside0.mk (blk_below (g := gb126) (o := .cells #[.int .i64 0, .int .i64 0, .int .i64 0, .string (⟨#[]⟩ : ByteArray)] 40 (0, 0)) (by (with_reducible repeat (first | refine blk_drewN ?_ _ | refine blk_drew ?_ | refine blk_alloc ?_ _)); exact BK126.out) hb); have n1_ := Aside0.mk (below_step (by repeat (first | (with_reducible first | exact HB.out | apply below_alloc | apply pw_below_drewN | apply below_drew1 | refine below_set ?_ GE126.out) | exact HB.out)) hb); clear BK126; clear HB; have BK126 := n0_; have HB := n1_; clear n0_ n1_; (try clear hb); (try clear hb2); (try clear hk); (try clear hi)) | ((with_reducible refine gate_callee (f := 68) rfl ?_); refine goesL_ (some 18) rfl rfl Tryz.func68 (by kernel_rfl) rfl #[.string t127, .string (⟨#[62]⟩ : ByteArray)] rfl (by (try simp only [List.map_toArray, List.map_cons, List.map_nil]); first | done | rfl | (simp only [List.length_drop, List.length_take]; rfl)) ?_; (with_reducible refine (strings_Cut.calls t127 (⟨#[62]⟩ : ByteArray) t128 t129 true _ ?side1 A4.out).mono ?_); (case side1 => exact GW.below (by repeat (first | (with_reducible first | exact HB.out | apply below_alloc | apply pw_below_drewN | apply below_drew1 | refine below_set ?_ GE126.out) | exact HB.out)) HG.out); rintro e w10 ⟨rfl, hb⟩; refine ⟨_, rfl, ?_⟩; have n0_ := Aside0.mk (blk_below (g := gb126) (o := .cells #[.int .i64 0, .int .i64 0, .int .i64 0, .string (⟨#[]⟩ : ByteArray)] 40 (0, 0)) (by (with_reducible repeat (first | refine blk_drewN ?_ _ | refine blk_drew ?_ | refine blk_alloc ?_ _)); exact BK126.out) hb); have n1_ := Aside0.mk (below_step (by repeat (first | (with_reducible first | exact HB.out | apply below_alloc | apply pw_below_drewN | apply below_drew1 | refine below_set ?_ GE126.out) | exact HB.out)) hb); clear BK126; clear HB; have BK126 := n0_; have HB := n1_; clear n0_ n1_; (try clear hb); (try clear hb2); (try clear hk); (try clear hi)) | ((with_reducible refine gate_callee (f := 69) rfl ?_); refine goesL_ (some 29) rfl rfl Tryz.func69 (by kernel_rfl) rfl #[.string t128] rfl (by (try simp only [List.map_toArray, List.map_cons, List.map_nil]); first | done | rfl | (simp only [List.length_drop, List.length_take]; rfl)) ?_; (with_reducible refine (hex_UnHex.calls k t128 t131 t132 t133 _ A6.out).mono ?_); rintro e w11 ⟨v134, rfl, ho0, hb⟩; refine ⟨_, rfl, ?_⟩; have n0_ := Aside0.mk (Kd.R_lower ho0 (below_size (by repeat (first | (with_reducible first | exact HB.out | apply below_alloc | apply pw_below_drewN | apply below_drew1 | refine below_set ?_ GE126.out) | exact HB.out)))); have n1_ := Aside0.mk (blk_below (g := gb126) (o := .cells #[.int .i64 0, .int .i64 0, .int .i64 0, .string (⟨#[]⟩ : ByteArray)] 40 (0, 0)) (by (with_reducible repeat (first | refine blk_drewN ?_ _ | refine blk_drew ?_ | refine blk_alloc ?_ _)); exact BK126.out) hb); have n2_ := Aside0.mk (below_step (by repeat (first | (with_reducible first | exact HB.out | apply below_alloc | apply pw_below_drewN | apply below_drew1 | refine below_set ?_ GE126.out) | exact HB.out)) hb); clear BK126; clear HB; have HO135 := n0_; have BK126 := n1_; have HB := n2_; clear n0_ n1_ n2_; (try clear hb); (try clear hb2); (try clear hk); (try clear hi); (try clear ho0); have hcv12 := own_string (P := Tryz.prog) Tryz.underlying52 Tryz.underlying5 Tryz.underlying9 (Kd.own_of_R HO135.out); have hcz13_0 : w11.cell? ⟨gb126, 0, none⟩ = some (.int .i64 0) := (blk_cell BK126.out 0).trans rfl; have hcz13_1 : w11.cell? ⟨gb126, 1, none⟩ = some (.int .i64 0) := (blk_cell BK126.out 1).trans rfl; have hcz13_2 : w11.cell? ⟨gb126, 2, none⟩ = some (.int .i64 0) := (blk_cell BK126.out 2).trans rfl; have hcz13_3 : w11.cell? ⟨gb126, 3, none⟩ = some (.string (⟨#[]⟩ : ByteArray)) := (blk_cell BK126.out 3).trans rfl; have hfz13_0 := blk_frozen BK126.out 0; have hfz13_1 := blk_frozen BK126.out 1; have hfz13_2 := blk_frozen BK126.out 2; have hfz13_3 := blk_frozen BK126.out 3))
   refine bodyPost_ret (results_ctt rfl _ _ gb126 40 #[.int .i64 4, .int .i64 a1, .int .i64 0, .string (strOfNums t131)] (0, 0) _ rfl (by (with_reducible repeat (first | refine blk_drewN ?_ _ | refine blk_drew ?_ | refine blk_alloc ?_ _)); refine blk_put (cs := #[.int .i64 4, .int .i64 a1, .int .i64 0, .string (⟨#[]⟩ : ByteArray)]) ?_ 3 _ rfl; (with_reducible repeat (first | refine blk_drewN ?_ _ | refine blk_drew ?_ | refine blk_alloc ?_ _)); refine blk_put (cs := #[.int .i64 4, .int .i64 a1, .int .i64 0, .string (⟨#[]⟩ : ByteArray)]) ?_ 2 _ rfl; (with_reducible repeat (first | refine blk_drewN ?_ _ | refine blk_drew ?_ | refine blk_alloc ?_ _)); refine blk_put (cs := #[.int .i64 4, .int .i64 0, .int .i64 0, .string (⟨#[]⟩ : ByteArray)]) ?_ 1 _ rfl; (with_reducible repeat (first | refine blk_drewN ?_ _ | refine blk_drew ?_ | refine blk_alloc ?_ _)); refine blk_put (cs := #[.int .i64 0, .int .i64 0, .int .i64 0, .string (⟨#[]⟩ : ByteArray)]) ?_ 0 _ rfl; (with_reducible repeat (first | refine blk_drewN ?_ _ | refine blk_drew ?_ | refine blk_alloc ?_ _)); exact BK126.out) Tryz.underlying40 rfl (by kernel_rfl)) rfl ?_
   exact ⟨by first | rfl | (simp [errW_none, errW_some] <;> rfl) | (simp [*, errW_none, errW_some] <;> rfl), by repeat (first | (with_reducible first | exact HB.out | apply below_alloc | apply pw_below_drewN | apply below_drew1 | refine below_set ?_ GE126.out) | exact HB.out)⟩
  ·rw [if_neg c7] at H
   have c7b0 : (t133 == 0) = false := beq_eq_false_iff_ne.mpr c7
   have c7b1 : (t133 != 0) = true := bne_iff_ne.mpr c7
   simp only [Option.some.injEq, Prod.mk.injEq] at H
   obtain ⟨rfl, rfl, rfl, rfl, rfl, rfl⟩ := H
   go_enter Tryz.func43, Tryz.ntmps43
   go_wp2_with (first | ((with_reducible refine gate_dst (N := 4) rfl ?_); refine box_event ?hg (N := 4) ?hd (cs := #[.int .i64 0, .int .i64 0, .int .i64 0, .string (⟨#[]⟩ : ByteArray)]) (t := 40) ?hr ?_; (case hd => rfl); (case hg => rfl); (case hr => first | (go_simp; done) | (go_simp; rfl)); intro gb126 hg w14 hbox hb; have n0_ := Aside0.mk (below_step (by repeat (first | (with_reducible first | exact HB.out | apply below_alloc | apply pw_below_drewN | apply below_drew1) | exact HB.out)) hb); have n1_ := Aside0.mk (hbox); have n2_ := Aside0.mk ((by rw [hg]; exact (below_size (by repeat (first | (with_reducible first | exact HB.out | apply below_alloc | apply pw_below_drewN | apply below_drew1) | exact HB.out))) : w.heap.size ≤ gb126)); have n3_ := Aside0.mk ((by rw [hg]; exact (below_size (by repeat (first | (with_reducible first | exact HB.out | apply below_alloc | apply pw_below_drewN | apply below_drew1) | exact HB.out))) : w.heap.size ≤ gb126)); clear HB; have HB := n0_; have BK126 := n1_; have GW126 := n2_; have GE126 := n3_; clear n0_ n1_ n2_ n3_; clear hb hbox hg) | ((with_reducible refine gate_callee (f := 64) rfl ?_); refine goesL_ (some 17) rfl rfl Tryz.func64 (by kernel_rfl) rfl #[.string a0, .int .i64 (wrap64 (a1 + 1))] rfl (by (try simp only [List.map_toArray, List.map_cons, List.map_nil]); first | done | rfl | (simp only [List.length_drop, List.length_take]; rfl)) ?_; (with_reducible refine (tok_source_from.calls a0 (wrap64 (a1 + 1)) t127 _ A3.out).mono ?_); rintro e w15 ⟨rfl, hb⟩; refine ⟨_, rfl, ?_⟩; have n0_ := Aside0.mk (blk_below (g := gb126) (o := .cells #[.int .i64 0, .int .i64 0, .int .i64 0, .string (⟨#[]⟩ : ByteArray)] 40 (0, 0)) (by (with_reducible repeat (first | refine blk_drewN ?_ _ | refine blk_drew ?_ | refine blk_alloc ?_ _)); exact BK126.out) hb); have n1_ := Aside0.mk (below_step (by repeat (first | (with_reducible first | exact HB.out | apply below_alloc | apply pw_below_drewN | apply below_drew1 | refine below_set ?_ GE126.out) | exact HB.out)) hb); clear BK126; clear HB; have BK126 := n0_; have HB := n1_; clear n0_ n1_; (try clear hb); (try clear hb2); (try clear hk); (try clear hi)) | ((with_reducible refine gate_callee (f := 68) rfl ?_); refine goesL_ (some 18) rfl rfl Tryz.func68 (by kernel_rfl) rfl #[.string t127, .string (⟨#[62]⟩ : ByteArray)] rfl (by (try simp only [List.map_toArray, List.map_cons, List.map_nil]); first | done | rfl | (simp only [List.length_drop, List.length_take]; rfl)) ?_; (with_reducible refine (strings_Cut.calls t127 (⟨#[62]⟩ : ByteArray) t128 t129 true _ ?side1 A4.out).mono ?_); (case side1 => exact GW.below (by repeat (first | (with_reducible first | exact HB.out | apply below_alloc | apply pw_below_drewN | apply below_drew1 | refine below_set ?_ GE126.out) | exact HB.out)) HG.out); rintro e w16 ⟨rfl, hb⟩; refine ⟨_, rfl, ?_⟩; have n0_ := Aside0.mk (blk_below (g := gb126) (o := .cells #[.int .i64 0, .int .i64 0, .int .i64 0, .string (⟨#[]⟩ : ByteArray)] 40 (0, 0)) (by (with_reducible repeat (first | refine blk_drewN ?_ _ | refine blk_drew ?_ | refine blk_alloc ?_ _)); exact BK126.out) hb); have n1_ := Aside0.mk (below_step (by repeat (first | (with_reducible first | exact HB.out | apply below_alloc | apply pw_below_drewN | apply below_drew1 | refine below_set ?_ GE126.out) | exact HB.out)) hb); clear BK126; clear HB; have BK126 := n0_; have HB := n1_; clear n0_ n1_; (try clear hb); (try clear hb2); (try clear hk); (try clear hi)) | ((with_reducible refine gate_callee (f := 69) rfl ?_); refine goesL_ (some 29) rfl rfl Tryz.func69 (by kernel_rfl) rfl #[.string t128] rfl (by (try simp only [List.map_toArray, List.map_cons, List.map_nil]); first | done | rfl | (simp only [List.length_drop, List.length_take]; rfl)) ?_; (with_reducible refine (hex_UnHex.calls k t128 t131 t132 t133 _ A6.out).mono ?_); rintro e w17 ⟨v134, rfl, ho0, hb⟩; refine ⟨_, rfl, ?_⟩; have n0_ := Aside0.mk (Kd.R_lower ho0 (below_size (by repeat (first | (with_reducible first | exact HB.out | apply below_alloc | apply pw_below_drewN | apply below_drew1 | refine below_set ?_ GE126.out) | exact HB.out)))); have n1_ := Aside0.mk (blk_below (g := gb126) (o := .cells #[.int .i64 0, .int .i64 0, .int .i64 0, .string (⟨#[]⟩ : ByteArray)] 40 (0, 0)) (by (with_reducible repeat (first | refine blk_drewN ?_ _ | refine blk_drew ?_ | refine blk_alloc ?_ _)); exact BK126.out) hb); have n2_ := Aside0.mk (below_step (by repeat (first | (with_reducible first | exact HB.out | apply below_alloc | apply pw_below_drewN | apply below_drew1 | refine below_set ?_ GE126.out) | exact HB.out)) hb); clear BK126; clear HB; have HO135 := n0_; have BK126 := n1_; have HB := n2_; clear n0_ n1_ n2_; (try clear hb); (try clear hb2); (try clear hk); (try clear hi); (try clear ho0); have hcz18_0 : w17.cell? ⟨gb126, 0, none⟩ = some (.int .i64 0) := (blk_cell BK126.out 0).trans rfl; have hcz18_1 : w17.cell? ⟨gb126, 1, none⟩ = some (.int .i64 0) := (blk_cell BK126.out 1).trans rfl; have hcz18_2 : w17.cell? ⟨gb126, 2, none⟩ = some (.int .i64 0) := (blk_cell BK126.out 2).trans rfl; have hcz18_3 : w17.cell? ⟨gb126, 3, none⟩ = some (.string (⟨#[]⟩ : ByteArray)) := (blk_cell BK126.out 3).trans rfl; have hfz18_0 := blk_frozen BK126.out 0; have hfz18_1 := blk_frozen BK126.out 1; have hfz18_2 := blk_frozen BK126.out 2; have hfz18_3 := blk_frozen BK126.out 3))
   refine bodyPost_ret (results_ctt rfl _ _ gb126 40 #[.int .i64 0, .int .i64 0, .int .i64 0, .string (⟨#[]⟩ : ByteArray)] (0, 0) _ rfl (by (with_reducible repeat (first | refine blk_drewN ?_ _ | refine blk_drew ?_ | refine blk_alloc ?_ _)); refine blk_put (cs := #[.int .i64 0, .int .i64 0, .int .i64 0, .string (⟨#[]⟩ : ByteArray)]) ?_ 3 _ rfl; (with_reducible repeat (first | refine blk_drewN ?_ _ | refine blk_drew ?_ | refine blk_alloc ?_ _)); refine blk_put (cs := #[.int .i64 0, .int .i64 0, .int .i64 0, .string (⟨#[]⟩ : ByteArray)]) ?_ 2 _ rfl; (with_reducible repeat (first | refine blk_drewN ?_ _ | refine blk_drew ?_ | refine blk_alloc ?_ _)); refine blk_put (cs := #[.int .i64 0, .int .i64 0, .int .i64 0, .string (⟨#[]⟩ : ByteArray)]) ?_ 1 _ rfl; (with_reducible repeat (first | refine blk_drewN ?_ _ | refine blk_drew ?_ | refine blk_alloc ?_ _)); refine blk_put (cs := #[.int .i64 0, .int .i64 0, .int .i64 0, .string (⟨#[]⟩ : ByteArray)]) ?_ 0 _ rfl; (with_reducible repeat (first | refine blk_drewN ?_ _ | refine blk_drew ?_ | refine blk_alloc ?_ _)); exact BK126.out) Tryz.underlying40 rfl (by kernel_rfl)) rfl ?_
   exact ⟨by first | rfl | (simp [errW_none, errW_some] <;> rfl) | (simp [*, errW_none, errW_some] <;> rfl), by repeat (first | (with_reducible first | exact HB.out | apply below_alloc | apply pw_below_drewN | apply below_drew1 | refine below_set ?_ GE126.out) | exact HB.out)⟩
 ·replace c5 := Bool.eq_false_iff.mpr c5
  subst c5
  have H1 : (some (0, 0, 0, (⟨#[]⟩ : ByteArray), (a0.size : Int), 2)) = some (r1, r2, r3, r4, r5, r6) := by rw [if_neg (show ¬ (false = true) by decide)] at H; exact H
  clear H
  have H := H1
  clear H1
  simp only [Option.some.injEq, Prod.mk.injEq] at H
  obtain ⟨rfl, rfl, rfl, rfl, rfl, rfl⟩ := H
  go_enter Tryz.func43, Tryz.ntmps43
  go_wp2_with (first | ((with_reducible refine gate_dst (N := 4) rfl ?_); refine box_event ?hg (N := 4) ?hd (cs := #[.int .i64 0, .int .i64 0, .int .i64 0, .string (⟨#[]⟩ : ByteArray)]) (t := 40) ?hr ?_; (case hd => rfl); (case hg => rfl); (case hr => first | (go_simp; done) | (go_simp; rfl)); intro gb126 hg w19 hbox hb; have n0_ := Aside0.mk (below_step (by repeat (first | (with_reducible first | exact HB.out | apply below_alloc | apply pw_below_drewN | apply below_drew1) | exact HB.out)) hb); have n1_ := Aside0.mk (hbox); have n2_ := Aside0.mk ((by rw [hg]; exact (below_size (by repeat (first | (with_reducible first | exact HB.out | apply below_alloc | apply pw_below_drewN | apply below_drew1) | exact HB.out))) : w.heap.size ≤ gb126)); have n3_ := Aside0.mk ((by rw [hg]; exact (below_size (by repeat (first | (with_reducible first | exact HB.out | apply below_alloc | apply pw_below_drewN | apply below_drew1) | exact HB.out))) : w.heap.size ≤ gb126)); clear HB; have HB := n0_; have BK126 := n1_; have GW126 := n2_; have GE126 := n3_; clear n0_ n1_ n2_ n3_; clear hb hbox hg) | ((with_reducible refine gate_callee (f := 64) rfl ?_); refine goesL_ (some 17) rfl rfl Tryz.func64 (by kernel_rfl) rfl #[.string a0, .int .i64 (wrap64 (a1 + 1))] rfl (by (try simp only [List.map_toArray, List.map_cons, List.map_nil]); first | done | rfl | (simp only [List.length_drop, List.length_take]; rfl)) ?_; (with_reducible refine (tok_source_from.calls a0 (wrap64 (a1 + 1)) t127 _ A3.out).mono ?_); rintro e w20 ⟨rfl, hb⟩; refine ⟨_, rfl, ?_⟩; have n0_ := Aside0.mk (blk_below (g := gb126) (o := .cells #[.int .i64 0, .int .i64 0, .int .i64 0, .string (⟨#[]⟩ : ByteArray)] 40 (0, 0)) (by (with_reducible repeat (first | refine blk_drewN ?_ _ | refine blk_drew ?_ | refine blk_alloc ?_ _)); exact BK126.out) hb); have n1_ := Aside0.mk (below_step (by repeat (first | (with_reducible first | exact HB.out | apply below_alloc | apply pw_below_drewN | apply below_drew1 | refine below_set ?_ GE126.out) | exact HB.out)) hb); clear BK126; clear HB; have BK126 := n0_; have HB := n1_; clear n0_ n1_; (try clear hb); (try clear hb2); (try clear hk); (try clear hi)) | ((with_reducible refine gate_callee (f := 68) rfl ?_); refine goesL_ (some 18) rfl rfl Tryz.func68 (by kernel_rfl) rfl #[.string t127, .string (⟨#[62]⟩ : ByteArray)] rfl (by (try simp only [List.map_toArray, List.map_cons, List.map_nil]); first | done | rfl | (simp only [List.length_drop, List.length_take]; rfl)) ?_; (with_reducible refine (strings_Cut.calls t127 (⟨#[62]⟩ : ByteArray) t128 t129 false _ ?side1 A4.out).mono ?_); (case side1 => exact GW.below (by repeat (first | (with_reducible first | exact HB.out | apply below_alloc | apply pw_below_drewN | apply below_drew1 | refine below_set ?_ GE126.out) | exact HB.out)) HG.out); rintro e w21 ⟨rfl, hb⟩; refine ⟨_, rfl, ?_⟩; have n0_ := Aside0.mk (blk_below (g := gb126) (o := .cells #[.int .i64 0, .int .i64 0, .int .i64 0, .string (⟨#[]⟩ : ByteArray)] 40 (0, 0)) (by (with_reducible repeat (first | refine blk_drewN ?_ _ | refine blk_drew ?_ | refine blk_alloc ?_ _)); exact BK126.out) hb); have n1_ := Aside0.mk (below_step (by repeat (first | (with_reducible first | exact HB.out | apply below_alloc | apply pw_below_drewN | apply below_drew1 | refine below_set ?_ GE126.out) | exact HB.out)) hb); clear BK126; clear HB; have BK126 := n0_; have HB := n1_; clear n0_ n1_; (try clear hb); (try clear hb2); (try clear hk); (try clear hi); have hcz22_0 : w21.cell? ⟨gb126, 0, none⟩ = some (.int .i64 0) := (blk_cell BK126.out 0).trans rfl; have hcz22_1 : w21.cell? ⟨gb126, 1, none⟩ = some (.int .i64 0) := (blk_cell BK126.out 1).trans rfl; have hcz22_2 : w21.cell? ⟨gb126, 2, none⟩ = some (.int .i64 0) := (blk_cell BK126.out 2).trans rfl; have hcz22_3 : w21.cell? ⟨gb126, 3, none⟩ = some (.string (⟨#[]⟩ : ByteArray)) := (blk_cell BK126.out 3).trans rfl; have hfz22_0 := blk_frozen BK126.out 0; have hfz22_1 := blk_frozen BK126.out 1; have hfz22_2 := blk_frozen BK126.out 2; have hfz22_3 := blk_frozen BK126.out 3))
  refine bodyPost_ret (results_ctt rfl _ _ gb126 40 #[.int .i64 0, .int .i64 0, .int .i64 0, .string (⟨#[]⟩ : ByteArray)] (0, 0) _ rfl (by (with_reducible repeat (first | refine blk_drewN ?_ _ | refine blk_drew ?_ | refine blk_alloc ?_ _)); refine blk_put (cs := #[.int .i64 0, .int .i64 0, .int .i64 0, .string (⟨#[]⟩ : ByteArray)]) ?_ 3 _ rfl; (with_reducible repeat (first | refine blk_drewN ?_ _ | refine blk_drew ?_ | refine blk_alloc ?_ _)); refine blk_put (cs := #[.int .i64 0, .int .i64 0, .int .i64 0, .string (⟨#[]⟩ : ByteArray)]) ?_ 2 _ rfl; (with_reducible repeat (first | refine blk_drewN ?_ _ | refine blk_drew ?_ | refine blk_alloc ?_ _)); refine blk_put (cs := #[.int .i64 0, .int .i64 0, .int .i64 0, .string (⟨#[]⟩ : ByteArray)]) ?_ 1 _ rfl; (with_reducible repeat (first | refine blk_drewN ?_ _ | refine blk_drew ?_ | refine blk_alloc ?_ _)); refine blk_put (cs := #[.int .i64 0, .int .i64 0, .int .i64 0, .string (⟨#[]⟩ : ByteArray)]) ?_ 0 _ rfl; (with_reducible repeat (first | refine blk_drewN ?_ _ | refine blk_drew ?_ | refine blk_alloc ?_ _)); exact BK126.out) Tryz.underlying40 rfl (by kernel_rfl)) rfl ?_
  exact ⟨by first | rfl | (simp [errW_none, errW_some] <;> rfl) | (simp [*, errW_none, errW_some] <;> rfl), by repeat (first | (with_reducible first | exact HB.out | apply below_alloc | apply pw_below_drewN | apply below_drew1 | refine below_set ?_ GE126.out) | exact HB.out)⟩
def tok_number.l0 : Nat → ByteArray → Int → Int → Option (Int × Int)
 | 0, _, _, _ => none
 | k + 1, x0, x4, x5 => if x5 < 3 then (if x5 < (x0.size : Int) then (if 0 ≤ x5 then (if (bt x0 x5) ≥ 48 then (if (bt x0 x5) < 56 then (tok_number.l0 k x0 (wrap64 ((wrap64 (x4 * 8)) + (((bt x0 x5) - 48) % 256))) (wrap64 (x5 + 1))) else (some ((x4) % 256, x5))) else (some ((x4) % 256, x5))) else (none)) else (some ((x4) % 256, x5))) else (some ((x4) % 256, x5))
def tok_number.f (k : Nat) (a0 : ByteArray) : Option (Int × Int) := tok_number.l0 k a0 0 0
theorem tok_number.mono_l : ∀ k, (∀ y0 y1 y2, LeO (tok_number.l0 k y0 y1 y2) (tok_number.l0 (k + 1) y0 y1 y2))
 | 0 => fun _ _ _ r h => by simp [tok_number.l0] at h
 | k + 1 => by
  have ih0 := tok_number.mono_l k
  ·intro y0 y1 y2
   unfold tok_number.l0
   repeat' first
   | (with_reducible exact ih0 _ _ _)
   | (with_reducible exact LeO.refl _)
   | (with_reducible exact LeO.none _)
   | (with_reducible refine LeO.ite ?_ ?_)
   | (with_reducible refine LeO.bind ?_ (fun _ => ?_))
   | exact ih0 _ _ _
   | exact LeO.none _
   | refine LeO.ite ?_ ?_
   | refine LeO.bind ?_ (fun _ => ?_)
theorem tok_number.mono : ∀ a0 k, LeO (tok_number.f k a0) (tok_number.f (k + 1) a0) := by
 intro a0 k
 have ih0 := tok_number.mono_l k
 unfold tok_number.f
 repeat' first
   | (with_reducible exact ih0 _ _ _)
   | (with_reducible exact LeO.refl _)
   | (with_reducible exact LeO.none _)
   | (with_reducible refine LeO.ite ?_ ?_)
   | (with_reducible refine LeO.bind ?_ (fun _ => ?_))
   | exact ih0 _ _ _
   | exact LeO.none _
   | refine LeO.ite ?_ ?_
   | refine LeO.bind ?_ (fun _ => ?_)
set_option maxHeartbeats 8000000 in
set_option maxRecDepth 100000 in
theorem tok_number.calls (k : Nat) (a0 : ByteArray) (r1 : Int) (r2 : Int) (w : World) (h : tok_number.f k a0 = some (r1, r2)) :
  Calls Tryz.prog 95 #[.string a0] w fun e w' => e = .returned (.tuple #[.int .u8 r1, .int .i64 r2]) ∧ Drawn0 w w' := by
 have H : (tok_number.l0 k a0 0 0) = some (r1, r2) := h
 clear h
 have H' := aM H
 clear H
 go_enter Tryz.func95, Tryz.ntmps95
 go_wp2
 go_loopg [4, 5] k (fun kq v4 v5 w' => ∃ (x4_1 : Int) (x5_1 : Int), v4 = .int .i64 x4_1 ∧ v5 = .int .i64 x5_1 ∧ Aside0 (tok_number.l0 kq a0 x4_1 x5_1 = some (r1, r2)) ∧ Aside0 (kq ≤ k) ∧ Drawn0 w w')
 case atStart => exact ⟨(0), (0), vQ, vQ, H', ⟨Nat.le_refl _⟩, by repeat (first | exact Drawn0.refl _ | apply Drawn0.step)⟩
 case round =>
  clear H'
  obtain ⟨x4_1, x5_1, rfl, rfl, HA, HK1, ⟨m1, rfl⟩⟩ := hrel
  cases gk with
  | zero => exact absurd HA.out (by simp [tok_number.l0])
  | succ k1 =>
   have H := HA.out
   clear HA
   simp only [tok_number.l0] at H
   refine iD H ?_ ?_<;>clear H<;>intro H c2b0
   rotate_left
   ·simp only [Option.some.injEq, Prod.mk.injEq] at H
    obtain ⟨rfl, rfl⟩ := H
    go_wp2
    go_ret2
    exact ⟨by first | rfl | (simp; done) | (simp [*]; done), by repeat (first | exact Drawn0.refl _ | apply Drawn0.step)⟩
   refine iD H ?_ ?_<;>clear H<;>intro H c3b0
   rotate_left
   ·simp only [Option.some.injEq, Prod.mk.injEq] at H
    obtain ⟨rfl, rfl⟩ := H
    go_wp2
    go_ret2
    exact ⟨by first | rfl | (simp; done) | (simp [*]; done), by repeat (first | exact Drawn0.refl _ | apply Drawn0.step)⟩
   refine iD H ?_ ?_<;>clear H<;>intro H c4b0
   rotate_left
   ·exact absurd H (by simp)
   refine iNc H ?_ ?_<;>clear H<;>intro H c6
   rotate_left
   ·have c6b0 : decide (48 ≤ (bt a0 x5_1)) = false := decide_eq_false c6
    clear c6
    simp only [Option.some.injEq, Prod.mk.injEq] at H
    obtain ⟨rfl, rfl⟩ := H
    have p5 : 0 ≤ (x5_1 : Int) := of_decide_eq_true hQ
    have q5 : x5_1 < (a0.size : Int) := of_decide_eq_true hQ
    have hx5 := bt_at a0 x5_1
    replace p5 := eq_true p5
    replace q5 := eq_true q5
    go_wp2
    go_ret2
    exact ⟨by first | rfl | (simp; done) | (simp [*]; done), by repeat (first | exact Drawn0.refl _ | apply Drawn0.step)⟩
   have c6b0 : decide (48 ≤ (bt a0 x5_1)) = true := decide_eq_true c6
   clear c6
   refine iD H ?_ ?_<;>clear H<;>intro H c8b0
   rotate_left
   ·simp only [Option.some.injEq, Prod.mk.injEq] at H
    obtain ⟨rfl, rfl⟩ := H
    have p5 : 0 ≤ (x5_1 : Int) := of_decide_eq_true hQ
    have q5 : x5_1 < (a0.size : Int) := of_decide_eq_true hQ
    have hx5 := bt_at a0 x5_1
    replace p5 := eq_true p5
    replace q5 := eq_true q5
    have p7 : 0 ≤ (x5_1 : Int) := of_decide_eq_true hQ
    have q7 : x5_1 < (a0.size : Int) := of_decide_eq_true hQ
    have hx7 := bt_at a0 x5_1
    replace p7 := eq_true p7
    replace q7 := eq_true q7
    go_wp2
    go_ret2
    exact ⟨by first | rfl | (simp; done) | (simp [*]; done), by repeat (first | exact Drawn0.refl _ | apply Drawn0.step)⟩
   have H' := aM H
   clear H
   have p5 : 0 ≤ (x5_1 : Int) := of_decide_eq_true hQ
   have q5 : x5_1 < (a0.size : Int) := of_decide_eq_true hQ
   have hx5 := bt_at a0 x5_1
   replace p5 := eq_true p5
   replace q5 := eq_true q5
   have p7 : 0 ≤ (x5_1 : Int) := of_decide_eq_true hQ
   have q7 : x5_1 < (a0.size : Int) := of_decide_eq_true hQ
   have hx7 := bt_at a0 x5_1
   replace p7 := eq_true p7
   replace q7 := eq_true q7
   have p9 : 0 ≤ (x5_1 : Int) := of_decide_eq_true hQ
   have q9 : x5_1 < (a0.size : Int) := of_decide_eq_true hQ
   have hx9 := bt_at a0 x5_1
   replace p9 := eq_true p9
   replace q9 := eq_true q9
   go_wp2
   go_roundg k1
   case measure => have := HK1.out; omega
   case rel => exact ⟨(wrap64 ((wrap64 (x4_1 * 8)) + (((bt a0 x5_1) - 48) % 256))), (wrap64 (x5_1 + 1)), vQ, vQ, H', ⟨by have := HK1.out; omega⟩, by repeat (first | exact Drawn0.refl _ | apply Drawn0.step)⟩
def tok_escaped.j0 : Nat → ByteArray → Bool → Option (ByteArray × Int)
 | 0, _, _ => none
 | k + 1, x0, x24 => if x24 = true then (some ((⟨#[]⟩ : ByteArray), 1)) else (if 0 < (x0.size : Int) then ((strings_IndexByte.f (⟨#[110, 114, 116, 98, 102]⟩ : ByteArray) (bt x0 0)).bind fun t142 => (if t142 ≥ 0 then (if 0 ≤ t142 then (if t142 ≤ (wrap64 (t142 + 1)) then (if (wrap64 (t142 + 1)) ≤ 5 then (some ((⟨#[10, 13, 9, 8, 12]⟩ : ByteArray).extract (t142 : Int).toNat ((wrap64 (t142 + 1)) : Int).toNat, 1)) else (none)) else (none)) else (none)) else (if 0 ≤ 1 then (if 1 ≤ (x0.size : Int) then (some (x0.extract 0 1, 1)) else (none)) else (none)))) else (none))
def tok_escaped.f (k : Nat) (a0 : ByteArray) : Option (ByteArray × Int) := (tok_number.f k a0).bind fun bt136 => (if bt136.2 > 0 then (some (strOfNums (([bt136.1] : List Int)), bt136.2)) else (if a0.toList = ([] : List UInt8) then (some ((⟨#[]⟩ : ByteArray), 0)) else ((strings_HasPrefix.f a0 (⟨#[13, 10]⟩ : ByteArray)).bind fun t141 => (if t141 = true then (some ((⟨#[]⟩ : ByteArray), 2)) else (if 0 < (a0.size : Int) then (if (bt a0 0) = 10 then (tok_escaped.j0 k a0 true) else (tok_escaped.j0 k a0 ((bt a0 0) == 13))) else (none))))))
theorem tok_escaped.mono_l : ∀ k, (∀ y0 y1, LeO (tok_escaped.j0 k y0 y1) (tok_escaped.j0 (k + 1) y0 y1))
 | 0 => fun _ _ r h => by simp [tok_escaped.j0] at h
 | k + 1 => by
  have ih0 := tok_escaped.mono_l k
  ·intro y0 y1
   unfold tok_escaped.j0
   repeat' first
   | (with_reducible exact ih0 _ _)
   | (with_reducible exact tok_number.mono _ _)
   | (with_reducible exact LeO.refl _)
   | (with_reducible exact LeO.none _)
   | (with_reducible refine LeO.ite ?_ ?_)
   | (with_reducible refine LeO.bind ?_ (fun _ => ?_))
   | exact ih0 _ _
   | exact tok_number.mono _ _
   | exact LeO.none _
   | refine LeO.ite ?_ ?_
   | refine LeO.bind ?_ (fun _ => ?_)
theorem tok_escaped.mono : ∀ a0 k, LeO (tok_escaped.f k a0) (tok_escaped.f (k + 1) a0) := by
 intro a0 k
 have ih0 := tok_escaped.mono_l k
 unfold tok_escaped.f
 repeat' first
   | (with_reducible exact ih0 _ _)
   | (with_reducible exact tok_number.mono _ _)
   | (with_reducible exact LeO.refl _)
   | (with_reducible exact LeO.none _)
   | (with_reducible refine LeO.ite ?_ ?_)
   | (with_reducible refine LeO.bind ?_ (fun _ => ?_))
   | exact ih0 _ _
   | exact tok_number.mono _ _
   | exact LeO.none _
   | refine LeO.ite ?_ ?_
   | refine LeO.bind ?_ (fun _ => ?_)
set_option maxHeartbeats 8000000 in
set_option maxRecDepth 100000 in
theorem tok_escaped.calls (k : Nat) (a0 : ByteArray) (r1 : ByteArray) (r2 : Int) (w : World) (h : tok_escaped.f k a0 = some (r1, r2)) :
  Calls Tryz.prog 70 #[.string a0] w fun e w' => e = .returned (.tuple #[.string r1, .int .i64 r2]) ∧ Below w.heap.size w w' := by
 have HB := aM (Below.refl w.heap.size w)
 have H : ((tok_number.f k a0).bind fun bt136 => (if bt136.2 > 0 then (some (strOfNums (([bt136.1] : List Int)), bt136.2)) else (if a0.toList = ([] : List UInt8) then (some ((⟨#[]⟩ : ByteArray), 0)) else ((strings_HasPrefix.f a0 (⟨#[13, 10]⟩ : ByteArray)).bind fun t141 => (if t141 = true then (some ((⟨#[]⟩ : ByteArray), 2)) else (if 0 < (a0.size : Int) then (if (bt a0 0) = 10 then (tok_escaped.j0 k a0 true) else (tok_escaped.j0 k a0 ((bt a0 0) == 13))) else (none))))))) = some (r1, r2) := h
 clear h
 replace H := bS H
 obtain ⟨⟨t136, t137⟩, A2, H⟩ := H
 try dsimp only at H
 refine iNc H ?_ ?_<;>clear H<;>intro H c3
 ·have c3b0 : decide (0 < t137) = true := decide_eq_true c3
  clear c3
  obtain ⟨y138, hy138⟩ : ∃ y_ : List Int, y_ = (([t136] : List Int)) := ⟨_, rfl⟩
  replace H : (some (strOfNums y138, t137)) = some (r1, r2) := by first | (rw [hy138]; with_reducible exact H) | (have H2_ := (Option.bind_some _ _).symm.trans H; rw [hy138]; with_reducible exact H2_) | (have H2_ := (Option.bind_some _ _).symm.trans H; with_reducible exact H2_) | with_reducible exact H | (rw [hy138]; exact H) | exact H
  have Ny138 := aM hy138
  clear hy138
  simp only [Option.some.injEq, Prod.mk.injEq] at H
  obtain ⟨rfl, rfl⟩ := H
  go_enter Tryz.func70, Tryz.ntmps70
  go_wp2_with (first | ((with_reducible refine gC 95 ?_); refine gL (some 9) Tryz.func95 #[.string a0] ?_; (with_reducible refine (tok_number.calls k a0 t136 t137 _ A2.out).mono ?_); rintro e w' ⟨rfl, ⟨nd, rfl⟩⟩; refine ⟨_, rfl, ?_⟩) | ((with_reducible refine gD 15 ?_); refine Kd.R_lit (Kd.int .u8) _ 5 ?hg (N := 15) ?hd (xs := ([t136] : List Int)) (inner := [.int .u8 t136]) (ok := fun _ => True) (okp := fun _ => True) ?hr ?hp (fun _ hk => hk) trivial (Below.refl _ _) (Nat.le_refl _) (by simp) ?_; (case hd => rfl); (case hg => rfl); (case hr => first | (go_simp; done) | (go_simp; rfl)); (case hp => exact (Reps.one (show Kd.M (Kd.int .u8) _ _ _ t136 [.int .u8 t136] from rfl) (Reps.none _ _))); intro v139 w4 ho5 hb hg_ hnew_; clear hg_ hnew_; (first | rw [← Ny138.out] at ho5 | (simp only [Int.reduceToNat] at ho5; rw [← Ny138.out] at ho5)); have HO140 := lK ho5; replace HB := sB hb; clear hb ho5; have hcv6 := own_string (P := Tryz.prog) Tryz.underlying52 Tryz.underlying5 Tryz.underlying9 (Kd.own_of_R HO140.out)))
  go_ret2
  exact ⟨eQ, bQ⟩
 have c3b0 : decide (0 < t137) = false := decide_eq_false c3
 clear c3
 refine iEc H ?_ ?_<;>clear H<;>intro H c7b0 c7b1 c7
 ·clear c7
  simp only [Option.some.injEq, Prod.mk.injEq] at H
  obtain ⟨rfl, rfl⟩ := H
  go_enter Tryz.func70, Tryz.ntmps70
  go_wp2_with (first | ((with_reducible refine gC 95 ?_); refine gL (some 9) Tryz.func95 #[.string a0] ?_; (with_reducible refine (tok_number.calls k a0 t136 t137 _ A2.out).mono ?_); rintro e w' ⟨rfl, ⟨nd, rfl⟩⟩; refine ⟨_, rfl, ?_⟩))
  go_ret2
  exact ⟨eQ, bQ⟩
 replace H := bS H
 obtain ⟨t141, A8, H⟩ := H
 try dsimp only at H
 by_cases c9 : t141 = true
 ·subst c9
  rw [if_pos rfl] at H
  simp only [Option.some.injEq, Prod.mk.injEq] at H
  obtain ⟨rfl, rfl⟩ := H
  go_enter Tryz.func70, Tryz.ntmps70
  go_wp2_with (first | ((with_reducible refine gC 95 ?_); refine gL (some 9) Tryz.func95 #[.string a0] ?_; (with_reducible refine (tok_number.calls k a0 t136 t137 _ A2.out).mono ?_); rintro e w' ⟨rfl, ⟨nd, rfl⟩⟩; refine ⟨_, rfl, ?_⟩) | ((with_reducible refine gC 63 ?_); refine gL (some 23) Tryz.func63 #[.string a0, .string (⟨#[13, 10]⟩ : ByteArray)] ?_; (with_reducible refine (strings_HasPrefix.calls a0 (⟨#[13, 10]⟩ : ByteArray) true _ A8.out).mono ?_); rintro e w' ⟨rfl, ⟨nd, rfl⟩⟩; refine ⟨_, rfl, ?_⟩))
  go_ret2
  exact ⟨eQ, bQ⟩
 replace c9 := Bool.eq_false_iff.mpr c9
 subst c9
 rw [if_neg (show ¬ (false = true) by decide)] at H
 have HC10 := aM H
 clear H
 go_enter Tryz.func70, Tryz.ntmps70
 go_upto_region 8 with (first | ((with_reducible refine gC 95 ?_); refine gL (some 9) Tryz.func95 #[.string a0] ?_; (with_reducible refine (tok_number.calls k a0 t136 t137 _ A2.out).mono ?_); rintro e w' ⟨rfl, ⟨nd, rfl⟩⟩; refine ⟨_, rfl, ?_⟩) | ((with_reducible refine gC 63 ?_); refine gL (some 23) Tryz.func63 #[.string a0, .string (⟨#[13, 10]⟩ : ByteArray)] ?_; (with_reducible refine (strings_HasPrefix.calls a0 (⟨#[13, 10]⟩ : ByteArray) false _ A8.out).mono ?_); rintro e w' ⟨rfl, ⟨nd, rfl⟩⟩; refine ⟨_, rfl, ?_⟩))
 (try simp only [Act.put, List.setIfInBounds_toArray, List.set_cons_zero, List.set_cons_succ])
 go_cut [24] (fun v24 wc => ∃ (kq : Nat) (x24_9 : Bool), v24 = .bool x24_9 ∧ Aside0 (tok_escaped.j0 kq a0 x24_9 = some (r1, r2)) ∧ Aside0 (kq ≤ k) ∧ Aside0 (Below w.heap.size w wc))
 case first =>
  have H := HC10.out
  clear HC10
  refine iDc H ?_ ?_<;>clear H<;>intro H c11b0 c11
  rotate_left
  ·exact absurd H (by simp)
  have c11b1 : decide (0 < a0.size) = true := decide_eq_true (by omega)
  clear c11
  (first | rw [c11b0] | (simp only [i64_w, i32_w]; rw [c11b0]) | skip)
  refine iEc H ?_ ?_<;>clear H<;>intro H c13b0 c13b1 c13
  ·clear c13
   have H' := aM H
   clear H
   have p12 : 0 ≤ (0 : Int) := (by omega)
   have q12 : 0 < a0.size := (by have : (0 : Int) < (a0.size : Int) := of_decide_eq_true hQ; omega)
   have hx12 : ∀ h : 0 < a0.size, ((a0[0]'h).toNat : Int) = bt a0 0 := bt_at a0 0
   clear p12
   have qi12 : (0 < (a0.size : Int)) = True := eq_true (of_decide_eq_true hQ)
   replace q12 := eq_true q12
   go_wp2
   go_meet
   case rel => exact ⟨_, (true), vQ, H', ⟨by first | omega | exact Nat.le_refl _⟩, ⟨bQ⟩⟩
  have H' := aM H
  clear H
  have p12 : 0 ≤ (0 : Int) := (by omega)
  have q12 : 0 < a0.size := (by have : (0 : Int) < (a0.size : Int) := of_decide_eq_true hQ; omega)
  have hx12 : ∀ h : 0 < a0.size, ((a0[0]'h).toNat : Int) = bt a0 0 := bt_at a0 0
  clear p12
  have qi12 : (0 < (a0.size : Int)) = True := eq_true (of_decide_eq_true hQ)
  replace q12 := eq_true q12
  have p14 : 0 ≤ (0 : Int) := (by omega)
  have q14 : 0 < a0.size := (by have : (0 : Int) < (a0.size : Int) := of_decide_eq_true hQ; omega)
  have hx14 : ∀ h : 0 < a0.size, ((a0[0]'h).toNat : Int) = bt a0 0 := bt_at a0 0
  clear p14
  have qi14 : (0 < (a0.size : Int)) = True := eq_true (of_decide_eq_true hQ)
  replace q14 := eq_true q14
  go_wp2
  go_meet
  case rel => exact ⟨_, (((bt a0 0) == 13)), vQ, H', ⟨by first | omega | exact Nat.le_refl _⟩, ⟨bQ⟩⟩
 case rest =>
  clear HC10
  try clear c1
  try clear p1
  try clear q1
  try clear hx1
  try clear qi1
  try clear p2
  try clear c3
  try clear c3b0
  try clear c6
  try clear hcv6
  try clear c7
  try clear c7b0
  try clear c7b1
  try clear c9
  try clear c11
  try clear c11b0
  try clear c11b1
  try clear p12
  try clear q12
  try clear hx12
  try clear qi12
  try clear c13
  try clear c13b0
  try clear c13b1
  try clear p14
  try clear q14
  try clear hx14
  try clear qi14
  try clear p12
  try clear p14
  try clear q12
  try clear q14
  obtain ⟨kq, x24_9, rfl, HA, HJ9, HB⟩ := hcut
  cases kq with
  | zero => exact absurd HA.out (by simp [tok_escaped.j0])
  | succ kj9 =>
   have H := HA.out
   clear HA
   simp only [tok_escaped.j0] at H
   by_cases c15 : x24_9 = true
   ·subst c15
    rw [if_pos rfl] at H
    simp only [Option.some.injEq, Prod.mk.injEq] at H
    obtain ⟨rfl, rfl⟩ := H
    go_wp2
    go_ret2
    exact ⟨eQ, bQ⟩
   replace c15 := Bool.eq_false_iff.mpr c15
   subst c15
   rw [if_neg (show ¬ (false = true) by decide)] at H
   refine iDc H ?_ ?_<;>clear H<;>intro H c16b0 c16
   rotate_left
   ·exact absurd H (by simp)
   have c16b1 : decide (0 < a0.size) = true := decide_eq_true (by omega)
   clear c16
   replace H := bS H
   obtain ⟨t142, A18, H⟩ := H
   try dsimp only at H
   refine iNc H ?_ ?_<;>clear H<;>intro H c19
   rotate_left
   ·have c19b0 : decide (0 ≤ t142) = false := decide_eq_false c19
    clear c19
    refine iNc H ?_ ?_<;>clear H<;>intro H c23
    rotate_left
    ·exact absurd H (by simp)
    have c23b0 := eq_true c23
    have c23b1 : decide (0 ≤ 1) = true := decide_eq_true c23
    clear c23
    refine iNc H ?_ ?_<;>clear H<;>intro H c24
    rotate_left
    ·exact absurd H (by simp)
    have c24b0 := eq_true c24
    have c24b1 : decide (1 ≤ (a0.size : Int)) = true := decide_eq_true c24
    clear c24
    simp only [Option.some.injEq, Prod.mk.injEq] at H
    obtain ⟨rfl, rfl⟩ := H
    have p17 : 0 ≤ (0 : Int) := (by omega)
    have q17 : 0 < a0.size := (by have : (0 : Int) < (a0.size : Int) := of_decide_eq_true hQ; omega)
    have hx17 : ∀ h : 0 < a0.size, ((a0[0]'h).toNat : Int) = bt a0 0 := bt_at a0 0
    clear p17
    have qi17 : (0 < (a0.size : Int)) = True := eq_true (of_decide_eq_true hQ)
    replace q17 := eq_true q17
    go_wp2_with (first | ((with_reducible refine gC 60 ?_); refine gL (some 35) Tryz.func60 #[.string (⟨#[110, 114, 116, 98, 102]⟩ : ByteArray), .int .u8 (bt a0 0)] ?_; (with_reducible refine (strings_IndexByte.calls (⟨#[110, 114, 116, 98, 102]⟩ : ByteArray) (bt a0 0) t142 _ A18.out).mono ?_); rintro e w' ⟨rfl, ⟨nd, rfl⟩⟩; refine ⟨_, rfl, ?_⟩))
    go_ret2
    exact ⟨eQ, bQ⟩
   have c19b0 : decide (0 ≤ t142) = true := decide_eq_true c19
   clear c19
   refine iNc H ?_ ?_<;>clear H<;>intro H c20
   rotate_left
   ·exact absurd H (by simp)
   have c20b0 := eq_true c20
   have c20b1 : decide (0 ≤ t142) = true := decide_eq_true c20
   clear c20
   refine iNc H ?_ ?_<;>clear H<;>intro H c21
   rotate_left
   ·exact absurd H (by simp)
   have c21b0 := eq_true c21
   have c21b1 : decide (t142 ≤ (wrap64 (t142 + 1))) = true := decide_eq_true c21
   refine iNc H ?_ ?_<;>clear H<;>intro H c22
   rotate_left
   ·exact absurd H (by simp)
   have c22b0 := eq_true c22
   have c22b1 : decide ((wrap64 (t142 + 1)) ≤ 5) = true := decide_eq_true c22
   simp only [Option.some.injEq, Prod.mk.injEq] at H
   obtain ⟨rfl, rfl⟩ := H
   have p17 : 0 ≤ (0 : Int) := (by omega)
   have q17 : 0 < a0.size := (by have : (0 : Int) < (a0.size : Int) := of_decide_eq_true hQ; omega)
   have hx17 : ∀ h : 0 < a0.size, ((a0[0]'h).toNat : Int) = bt a0 0 := bt_at a0 0
   clear p17
   have qi17 : (0 < (a0.size : Int)) = True := eq_true (of_decide_eq_true hQ)
   replace q17 := eq_true q17
   go_wp2_with (first | ((with_reducible refine gC 60 ?_); refine gL (some 35) Tryz.func60 #[.string (⟨#[110, 114, 116, 98, 102]⟩ : ByteArray), .int .u8 (bt a0 0)] ?_; (with_reducible refine (strings_IndexByte.calls (⟨#[110, 114, 116, 98, 102]⟩ : ByteArray) (bt a0 0) t142 _ A18.out).mono ?_); rintro e w' ⟨rfl, ⟨nd, rfl⟩⟩; refine ⟨_, rfl, ?_⟩))
   go_ret2
   exact ⟨eQ, bQ⟩
def tok_line.f (a0 : ByteArray) : Option (Int) := (strings_HasPrefix.f a0 (⟨#[13, 10]⟩ : ByteArray)).bind fun t143 => (if t143 = true then (some 2) else ((strings_HasPrefix.f a0 (⟨#[13]⟩ : ByteArray)).bind fun t144 => (if t144 = true then (some 1) else (some 0))))
set_option maxHeartbeats 8000000 in
set_option maxRecDepth 100000 in
theorem tok_line.calls (a0 : ByteArray) (r : Int) (w : World) (h : tok_line.f a0 = some r) :
  Calls Tryz.prog 72 #[.string a0] w fun e w' => e = .returned (.int .i64 r) ∧ Drawn0 w w' := by
 have H : ((strings_HasPrefix.f a0 (⟨#[13, 10]⟩ : ByteArray)).bind fun t143 => (if t143 = true then (some 2) else ((strings_HasPrefix.f a0 (⟨#[13]⟩ : ByteArray)).bind fun t144 => (if t144 = true then (some 1) else (some 0))))) = some r := h
 clear h
 replace H := bS H
 obtain ⟨t143, A2, H⟩ := H
 try dsimp only at H
 by_cases c3 : t143 = true
 ·subst c3
  rw [if_pos rfl] at H
  obtain rfl := Option.some.inj H
  go_enter Tryz.func72, Tryz.ntmps72
  go_wp2_with (first | ((with_reducible refine gC 63 ?_); refine gL (some 5) Tryz.func63 #[.string a0, .string (⟨#[13, 10]⟩ : ByteArray)] ?_; (with_reducible refine (strings_HasPrefix.calls a0 (⟨#[13, 10]⟩ : ByteArray) true _ A2.out).mono ?_); rintro e w' ⟨rfl, ⟨nd, rfl⟩⟩; refine ⟨_, rfl, ?_⟩))
  go_ret
  exact ⟨by first | rfl | (simp; done) | (simp [*]; done), by repeat (first | exact Drawn0.refl _ | apply Drawn0.step)⟩
 replace c3 := Bool.eq_false_iff.mpr c3
 subst c3
 rw [if_neg (show ¬ (false = true) by decide)] at H
 replace H := bS H
 obtain ⟨t144, A4, H⟩ := H
 try dsimp only at H
 by_cases c5 : t144 = true
 ·subst c5
  rw [if_pos rfl] at H
  obtain rfl := Option.some.inj H
  go_enter Tryz.func72, Tryz.ntmps72
  go_wp2_with (first | ((with_reducible refine gC 63 ?_); refine gL (some 5) Tryz.func63 #[.string a0, .string (⟨#[13, 10]⟩ : ByteArray)] ?_; (with_reducible refine (strings_HasPrefix.calls a0 (⟨#[13, 10]⟩ : ByteArray) false _ A2.out).mono ?_); rintro e w' ⟨rfl, ⟨nd, rfl⟩⟩; refine ⟨_, rfl, ?_⟩) | ((with_reducible refine gC 63 ?_); refine gL (some 8) Tryz.func63 #[.string a0, .string (⟨#[13]⟩ : ByteArray)] ?_; (with_reducible refine (strings_HasPrefix.calls a0 (⟨#[13]⟩ : ByteArray) true _ A4.out).mono ?_); rintro e w' ⟨rfl, ⟨nd, rfl⟩⟩; refine ⟨_, rfl, ?_⟩))
  go_ret
  exact ⟨by first | rfl | (simp; done) | (simp [*]; done), by repeat (first | exact Drawn0.refl _ | apply Drawn0.step)⟩
 replace c5 := Bool.eq_false_iff.mpr c5
 subst c5
 rw [if_neg (show ¬ (false = true) by decide)] at H
 obtain rfl := Option.some.inj H
 go_enter Tryz.func72, Tryz.ntmps72
 go_wp2_with (first | ((with_reducible refine gC 63 ?_); refine gL (some 5) Tryz.func63 #[.string a0, .string (⟨#[13, 10]⟩ : ByteArray)] ?_; (with_reducible refine (strings_HasPrefix.calls a0 (⟨#[13, 10]⟩ : ByteArray) false _ A2.out).mono ?_); rintro e w' ⟨rfl, ⟨nd, rfl⟩⟩; refine ⟨_, rfl, ?_⟩) | ((with_reducible refine gC 63 ?_); refine gL (some 8) Tryz.func63 #[.string a0, .string (⟨#[13]⟩ : ByteArray)] ?_; (with_reducible refine (strings_HasPrefix.calls a0 (⟨#[13]⟩ : ByteArray) false _ A4.out).mono ?_); rintro e w' ⟨rfl, ⟨nd, rfl⟩⟩; refine ⟨_, rfl, ?_⟩))
 go_ret
 exact ⟨by first | rfl | (simp; done) | (simp [*]; done), by repeat (first | exact Drawn0.refl _ | apply Drawn0.step)⟩
end Go.Proofs.YtjplnhdplpiogaaGreatDoor.M
end
section
namespace Go.Proofs.YtjplnhdplpiogaaGreatDoor.M
open Go.RowKit Go.Proofs.YtjplnhdplpiogaaGreatDoorW.PrintWords Go.Proofs.YtjplnhdplpiogaaGreatDoorW.PrintLast
set_option linter.unusedVariables false
set_option linter.unusedSimpArgs false
abbrev TokR := Int × Int × Int × ByteArray × Int × Int
def deepOf (c deep : Int) : Int := if c = 41 then deep - 1 else if c = 40 then deep + 1 else deep
def tok_source_strung.g (K : Nat) (a0 : ByteArray) (a1 : Int) : Nat → List UInt8 → Int → Int → Option TokR
 | 0, _, _, _ => none
 | n + 1, out, deep, p =>
  if out.length ≤ 140737488351232 ∧ 0 ≤ p ∧ p ≤ 4611686018427387904 ∧ 1 ≤ deep ∧ deep ≤ 32 ∧ a0.size ≤ 140737488351232 then
   (tok_source_from.f a0 p).bind fun rest =>
   if rest.size = 0 then some (0, 0, 0, ⟨#[]⟩, a0.size, 2)
   else if bt rest 0 = 92 then
    (tok_escaped.f K (rest.extract 1 rest.size)).bind fun bn =>
    if bn.2 = 0 then some (0, 0, 0, ⟨#[]⟩, a0.size, 2)
    else if 0 < bn.2 ∧ bn.2 ≤ 4611686018427387900 ∧ out.length + bn.1.size ≤ 140737488351232 then tok_source_strung.g K a0 a1 n (out ++ bn.1.data.toList) deep (p + (1 + bn.2)) else none
   else if bt rest 0 = 41 ∧ deep = 1 then some (5, a1, 0, ⟨out.toArray⟩, p + 1, 0)
   else if bt rest 0 = 40 ∧ deep = 32 then some (0, 0, 0, ⟨#[]⟩, p, 5)
   else
    (tok_line.f rest).bind fun m =>
    if 0 < m ∧ m ≤ 2 then tok_source_strung.g K a0 a1 n (out ++ [10]) (deepOf (bt rest 0) deep) (p + m)
    else if m = 0 then tok_source_strung.g K a0 a1 n (out ++ [(bt rest 0).toNat.toUInt8]) (deepOf (bt rest 0) deep) (p + 1)
    else none
  else none
def tok_source_strung.f (K : Nat) (a0 : ByteArray) (a1 : Int) : Option TokR := if 0 ≤ a1 ∧ a1 ≤ 140737488351232 then tok_source_strung.g K a0 a1 K [] 1 (a1 + 1) else none
theorem tok_source_strung.mono_g (K : Nat) (a0 : ByteArray) (a1 : Int) : ∀ n out deep p, LeO (tok_source_strung.g K a0 a1 n out deep p) (tok_source_strung.g (K + 1) a0 a1 (n + 1) out deep p)
 | 0, _, _, _ => fun r h => by simp [tok_source_strung.g] at h
 | n + 1, out, deep, p => by
  have ih := tok_source_strung.mono_g K a0 a1 n
  unfold tok_source_strung.g
  repeat' first
   | (with_reducible exact ih _ _ _)
   | (with_reducible exact tok_escaped.mono _ _)
   | (with_reducible exact LeO.refl _)
   | (with_reducible exact LeO.none _)
   | (with_reducible refine LeO.ite ?_ ?_)
   | (with_reducible refine LeO.bind ?_ (fun _ => ?_))
theorem tok_source_strung.mono : ∀ a0 a1 k, LeO (tok_source_strung.f k a0 a1) (tok_source_strung.f (k + 1) a0 a1) := by
 intro a0 a1 k
 unfold tok_source_strung.f
 refine LeO.ite ?_ (LeO.none _)
 exact tok_source_strung.mono_g k a0 a1 k [] 1 (a1 + 1)
theorem from_lt {a0 rest : ByteArray} {p : Int} (h : tok_source_from.f a0 p = some rest) (hp : 0 ≤ p) (h0 : rest.size ≠ 0) : p < a0.size ∧ rest.size ≤ a0.size := by
 unfold tok_source_from.f at h
 split at h
 case isFalse => cases h
 split at h
 case isFalse => cases h
 obtain rfl := Option.some.inj h
 rw [ByteArray.size_extract] at h0 ⊢
 unfold mn at *
 split at h0 <;> omega
/-- A pass from the label holds at the first one too. -/
theorem wp_scope_once {P : Program} {a : Act} {w : World} {Q : Exit → Act → World → Prop} {c rest : Code} (l : Nat) (J : Act → World → Prop) (μ : Act → World → Nat) (hf : findLabel c l = some (Code.skip.seq rest))
  (pass : ∀ a w, J a w → rest.wp P (Exit.jump l (fun a' w' => J a' w' ∧ μ a' w' < μ a w) Q) a w)
  (first : Aside0 (∀ a w, J a w → rest.wp P (Exit.jump l J Q) a w) → c.wp P (Exit.jump l J Q) a w) : (Code.scope c).wp P Q a w := by
 refine wp_scope_jumps l J μ hf (first ⟨?_⟩) (fun a w hJ => wp_seq (wp_skip (pass a w hJ)))
 intro a w hJ b k cs
 obtain ⟨e, a', w', hq, ha⟩ := pass a w hJ b k cs
 refine ⟨e, a', w', ?_, ha⟩
 cases e <;> first | exact hq | exact ⟨hq.1, hq.2.1⟩
theorem strung_bt (rest : ByteArray) (h : rest.size ≠ 0) : ∃ c : UInt8, bt rest 0 = (c.toNat : Int) ∧ ∀ h : 0 < rest.size, rest[0]'h = c := by
 refine ⟨rest[0]'(by omega), ?_, fun _ => rfl⟩
 exact (bt_at rest 0 (by omega)).symm
def StrJ (K : Nat) (a0 : ByteArray) (a1 : Int) (R : TokR) (Z : Array Value) (w : World) (a' : Act) (w' : World) : Prop :=
 ∃ (n : Nat) (out : List UInt8) (deep p : Int) (u2 u3 u10 u11 u12 u13 u14 u15 u16 u17 u18 u19 u20 u21 u22 u23 u24 u25 u26 u27 u28 u29 u30 u31 u32 u33 u34 u35 u36 u37 u38 u39 u40 u41 u42 u43 u44 u45 u46 u47 u48 u49 u50 u51 u52 u53 u54 u55 u56 u57 u58 u59 u60 u61 u62 u63 u64 u65 u66 u67 u68 u69 u70 u71 u72 u73 u74 u75 u76 u77 u78 u79 u80 u81 u82 u83 u84 u85 u86 u87 u88 u89 u90 u91 u92 u93 : Value), a' = { tmps := #[.string a0, .int .i64 a1, u2, u3, .pointer (some ⟨w.heap.size, 0, none⟩), .int .i64 0, .int .i64 0, .pointer (some ⟨w.heap.size + 1, 0, none⟩), .int .i64 deep, .int .i64 p, u10, u11, u12, u13, u14, u15, u16, u17, u18, u19, u20, u21, u22, u23, u24, u25, u26, u27, u28, u29, u30, u31, u32, u33, u34, u35, u36, u37, u38, u39, u40, u41, u42, u43, u44, u45, u46, u47, u48, u49, u50, u51, u52, u53, u54, u55, u56, u57, u58, u59, u60, u61, u62, u63, u64, u65, u66, u67, u68, u69, u70, u71, u72, u73, u74, u75, u76, u77, u78, u79, u80, u81, u82, u83, u84, u85, u86, u87, u88, u89, u90, u91, u92, u93], defers := [] } ∧ Aside0 (tok_source_strung.g K a0 a1 n out deep p = some R) ∧ 0 ≤ p ∧ Aside0 (IsBd (w.heap.size + 1) (w.heap.size + 1) out w') ∧ Aside0 (Below w.heap.size w w') ∧ Aside0 (w'.heap[w.heap.size]? = some (.cells Z 40 (0, 0))) ∧ w.heap.size + 2 ≤ w'.heap.size
set_option maxHeartbeats 4000000 in
set_option maxRecDepth 1000000 in
theorem tok_source_strung.calls (k : Nat) (a0 : ByteArray) (a1 : Int) (r1 : Int) (r2 : Int) (r3 : Int) (r4 : ByteArray) (r5 : Int) (r6 : Int) (w : World) (h : tok_source_strung.f k a0 a1 = some (r1, r2, r3, r4, r5, r6)) :
  Calls Tryz.prog 44 #[.string a0, .int .i64 a1] w fun e w' => e = .returned (.tuple #[.agg #[.int .i64 r1, .int .i64 r2, .int .i64 r3, .string r4], .int .i64 r5, .int .i64 r6]) ∧ Below w.heap.size w w' := by
 unfold tok_source_strung.f at h
 split at h
 case isFalse => cases h
 rename_i hb
 obtain ⟨hb0, hb1⟩ := hb
 have H := Aside0.mk h
 clear h
 generalize hZ : (#[Value.int IntKind.i64 0, Value.int IntKind.i64 0, Value.int IntKind.i64 0, Value.string ⟨#[]⟩] : Array Value) = Z
 have hzs : Z.size = 4 := by rw [← hZ]; rfl
 have HZ := Aside0.mk hZ
 clear hZ
 go_enter Tryz.func44, Tryz.ntmps44
 go_wp2
 refine wp_scope_once 0 (StrJ k a0 a1 (r1, r2, r3, r4, r5, r6) Z w) (fun a' _ => a0.size + 1 - (intOf (a'.tmps.getD 9 undef)).toNat) rfl ?pass ?first
 case first =>
  intro hp
  go_wp2
  go_step3
  rename_i hK
  refine hK _ _ (hp.out _ _ ⟨k, [], 1, a1 + 1, _, _, _, _, _, _, _, _, _, _, _, _, _, _, _, _, _, _, _, _, _, _, _, _, _, _, _, _, _, _, _, _, _, _, _, _, _, _, _, _, _, _, _, _, _, _, _, _, _, _, _, _, _, _, _, _, _, _, _, _, _, _, _, _, _, _, _, _, _, _, _, _, _, _, _, _, _, _, _, _, _, _, _, _, _, _, rfl, H, by omega, ⟨?_⟩, ⟨?_⟩, ⟨?_⟩, ?_⟩)
  ·have h := Lib.IsBuilderF.of (Lib.fresh_isBuilder 109 5 (w.alloc (.cells #[.int .i64 0, .int .i64 0, .int .i64 0, .string ⟨#[]⟩] 40)))
   rw [show (w.alloc (.cells #[.int .i64 0, .int .i64 0, .int .i64 0, .string ⟨#[]⟩] 40)).heap.size = w.heap.size + 1 from Array.size_push ..] at h
   exact h
  ·exact below_alloc (below_alloc (Below.refl _ w) _) _
  ·rw [← HZ.out]
   show ((w.heap.push _).push _)[w.heap.size]? = _
   rw [Array.getElem?_push, if_neg (by rw [Array.size_push]; omega), Array.getElem?_push_size]
  ·simp
 case pass =>
  rintro a' w' ⟨n, out, deep, p, u2, u3, u10, u11, u12, u13, u14, u15, u16, u17, u18, u19, u20, u21, u22, u23, u24, u25, u26, u27, u28, u29, u30, u31, u32, u33, u34, u35, u36, u37, u38, u39, u40, u41, u42, u43, u44, u45, u46, u47, u48, u49, u50, u51, u52, u53, u54, u55, u56, u57, u58, u59, u60, u61, u62, u63, u64, u65, u66, u67, u68, u69, u70, u71, u72, u73, u74, u75, u76, u77, u78, u79, u80, u81, u82, u83, u84, u85, u86, u87, u88, u89, u90, u91, u92, u93, rfl, HG, hp0, HI, HB, HZ1, hs⟩
  cases n with
  | zero => exact absurd HG.out (by simp [tok_source_strung.g])
  | succ n =>
  have hg := HG.out
  clear HG
  rw [tok_source_strung.g] at hg
  split at hg
  case isFalse => cases hg
  rename_i hc
  obtain ⟨ho, -, hp2, hd1, hd2, ha0⟩ := hc
  obtain ⟨rest, hfrom, hg⟩ := Option.bind_eq_some_iff.1 hg
  have HF := Aside0.mk hfrom
  have HG := Aside0.mk hg
  have HLT := Aside0.mk (fun h => from_lt hfrom hp0 h)
  clear hfrom hg
  go_wp2_with fail
  with_reducible refine (tok_source_from.calls a0 p rest _ HF.out).mono ?_
  rintro e W1 ⟨rfl, hb⟩
  have HI1 := Aside0.mk (IsBd.below HI.out hb)
  have HZ2 : Aside0 (W1.heap[w.heap.size]? = some (.cells Z 40 (0, 0))) := ⟨(hb.block w.heap.size (by omega)).trans HZ1.out⟩
  have HB1 : Aside0 (Below w.heap.size w W1) := ⟨below_step HB.out hb⟩
  have hs1 : w.heap.size + 2 ≤ W1.heap.size := by have := hb.size; omega
  clear hb HZ1 HB HI
  have hg := HG.out
  clear HG
  by_cases h0 : rest.size = 0
  ·rw [if_pos h0] at hg
   have hr : rest = ⟨#[]⟩ := by
    apply ByteArray.ext
    exact Array.size_eq_zero_iff.1 h0
   subst hr
   simp only [Option.some.injEq, Prod.mk.injEq] at hg
   obtain ⟨rfl, rfl, rfl, rfl, rfl, rfl⟩ := hg
   clear h0 HLT HF
   go_wp2_with (refine wpList_store_row rfl 40 (.tmp 4) (.tmp 22) rfl w.heap.size #[.int .i64 0, .int .i64 0, .int .i64 0, .string ⟨#[]⟩] rfl rfl 40 _ HZ2.out tok_info (by rw [hzs]; rfl) (tok_one _ _ _ _) ?_)
   simp only [Exit.jump]
   refine bodyPost_ret (v := .tuple #[.agg #[.int .i64 0, .int .i64 0, .int .i64 0, .string ⟨#[]⟩], .int .i64 a0.size, .int .i64 2]) ?_ rfl ⟨rfl, below_setRow HB1.out (Nat.le_refl _) _⟩
   exact results_ctt (fn := Tryz.f44) (p := 4) (u := 5) (v := 6) (ty := 40) rfl _ _ w.heap.size 40 _ (0, 0) _ rfl (setRow_heap W1 w.heap.size _ _ 40 (0, 0) HZ2.out) Tryz.underlying40 rfl tok_info
  rw [if_neg h0] at hg
  obtain ⟨hlt, hrs⟩ := HLT.out h0
  obtain ⟨c, hbt, hc0⟩ := strung_bt rest h0
  rw [hbt] at hg
  have h00 : 0 < rest.size := by omega
  have hne : (rest.toList == ([] : List UInt8)) = false := by
   rw [beq_eq_false_iff_ne]
   intro e
   rw [toList_data] at e
   apply h0
   rw [size_list, e]
   rfl
  clear HLT HF hbt h0
  by_cases e92 : c = 92
  ·subst e92
   rw [if_pos (show (((92 : UInt8).toNat : Nat) : Int) = 92 from rfl)] at hg
   obtain ⟨⟨eb, en⟩, hesc, hg⟩ := Option.bind_eq_some_iff.1 hg
   dsimp only at hg
   have HE := Aside0.mk hesc
   have HG := Aside0.mk hg
   have h01 : 1 ≤ rest.size := by omega
   clear hesc hg
   go_wp2_with fail
   with_reducible refine (tok_escaped.calls k _ eb en _ HE.out).mono ?_
   rintro e W2 ⟨rfl, hb⟩
   have HI3 := Aside0.mk (IsBd.below HI1.out hb)
   have HZ3 : Aside0 (W2.heap[w.heap.size]? = some (.cells Z 40 (0, 0))) := ⟨(hb.block w.heap.size (by omega)).trans HZ2.out⟩
   have HB3 : Aside0 (Below w.heap.size w W2) := ⟨below_step HB1.out hb⟩
   have hs2 : w.heap.size + 2 ≤ W2.heap.size := by have := hb.size; omega
   clear hb HZ2 HB1 HI1 HE
   have hg := HG.out
   clear HG
   by_cases hn : en = 0
   ·subst hn
    rw [if_pos rfl] at hg
    simp only [Option.some.injEq, Prod.mk.injEq] at hg
    obtain ⟨rfl, rfl, rfl, rfl, rfl, rfl⟩ := hg
    go_wp2_with (refine wpList_store_row rfl 40 (.tmp 4) (.tmp 37) rfl w.heap.size #[.int .i64 0, .int .i64 0, .int .i64 0, .string ⟨#[]⟩] rfl rfl 40 _ HZ3.out tok_info (by rw [hzs]; rfl) (tok_one _ _ _ _) ?_)
    simp only [Exit.jump]
    refine bodyPost_ret (v := .tuple #[.agg #[.int .i64 0, .int .i64 0, .int .i64 0, .string ⟨#[]⟩], .int .i64 a0.size, .int .i64 2]) ?_ rfl ⟨rfl, below_setRow HB3.out (Nat.le_refl _) _⟩
    exact results_ctt (fn := Tryz.f44) (p := 4) (u := 5) (v := 6) (ty := 40) rfl _ _ w.heap.size 40 _ (0, 0) _ rfl (setRow_heap W2 w.heap.size _ _ 40 (0, 0) HZ3.out) Tryz.underlying40 rfl tok_info
   ·rw [if_neg hn] at hg
    split at hg
    case isFalse => cases hg
    rename_i hcn
    obtain ⟨hn0, hn1, hol⟩ := hcn
    have hen : (en == 0) = false := beq_eq_false_iff_ne.2 hn
    have HG := Aside0.mk hg
    have HOL := Aside0.mk hol
    clear hg hol
    go_wp2_with (go_at_call 71; refine (WriteString_k (w.heap.size + 1) (w.heap.size + 1) _ eb _ HI3.out ?c1 ?c2).mono ?_)
    case c1 => rw [Lib.byteCells_length]; have := HOL.out; omega
    case c2 => omega
    rintro e W3 ⟨rfl, h3, b3, -⟩
    have HI4 : Aside0 (IsBd (w.heap.size + 1) (w.heap.size + 1) (out ++ eb.data.toList) W3) := ⟨by rw [IsBd, Lib.byteCells_append]; exact .inr h3⟩
    have HZ4 : Aside0 (W3.heap[w.heap.size]? = some (.cells Z 40 (0, 0))) := ⟨(b3.block w.heap.size (by omega)).trans HZ3.out⟩
    have HB4 : Aside0 (Below w.heap.size w W3) := ⟨HB3.out.trans (b3.mono (by omega))⟩
    have hs3 : w.heap.size + 2 ≤ W3.heap.size := by have := b3.size; omega
    clear h3 b3 HZ3 HB3 HI3
    go_wp2
    go_step3
    refine ⟨rfl, ⟨n, _, deep, p + (1 + en), _, _, _, _, _, _, _, _, _, _, _, _, _, _, _, _, _, _, _, _, _, _, _, _, _, _, _, _, _, _, _, _, _, _, _, _, _, _, _, _, _, _, _, _, _, _, _, _, _, _, _, _, _, _, _, _, _, _, _, _, _, _, _, _, _, _, _, _, _, _, _, _, _, _, _, _, _, _, _, _, _, _, _, _, _, _, rfl, HG, by omega, HI4, HB4, HZ4, hs3⟩, ?_⟩
    simp [intOf]
    omega
  rw [if_neg (show ¬ (c.toNat : Int) = 92 from fun e => e92 (UInt8.toNat_inj.1 (by show c.toNat = 92; omega)))] at hg
  by_cases e41 : c = 41
  ·subst e41
   by_cases d1 : deep = 1
   ·subst d1
    rw [if_pos (show (((41 : UInt8).toNat : Nat) : Int) = 41 ∧ (1 : Int) = 1 from ⟨rfl, rfl⟩)] at hg
    simp only [Option.some.injEq, Prod.mk.injEq] at hg
    obtain ⟨rfl, rfl, rfl, rfl, rfl, rfl⟩ := hg
    go_wp2_with (go_at_call 67; refine (Tryz.Builder_String_any_k (w.heap.size + 1) (w.heap.size + 1) _ _ HI1.out ?c1).mono ?_)
    case c1 => omega
    rintro e W2 ⟨rfl, -, b2, -⟩
    have HZ3 : Aside0 (W2.heap[w.heap.size]? = some (.cells Z 40 (0, 0))) := ⟨(b2.block w.heap.size (by omega)).trans HZ2.out⟩
    have HB3 : Aside0 (Below w.heap.size w W2) := ⟨HB1.out.trans (b2.mono (by omega))⟩
    clear b2 HZ2 HB1 HI1
    go_wp2_with (refine wpList_store_row rfl 40 (.tmp 4) (.tmp 56) rfl w.heap.size #[.int .i64 5, .int .i64 a1, .int .i64 0, .string ⟨out.toArray⟩] rfl rfl 40 _ HZ3.out tok_info (by rw [hzs]; rfl) (tok_one _ _ _ _) ?_)
    simp only [Exit.jump]
    refine bodyPost_ret (v := .tuple #[.agg #[.int .i64 5, .int .i64 a1, .int .i64 0, .string ⟨out.toArray⟩], .int .i64 (p + 1), .int .i64 0]) ?_ rfl ⟨rfl, below_setRow HB3.out (Nat.le_refl _) _⟩
    exact results_ctt (fn := Tryz.f44) (p := 4) (u := 5) (v := 6) (ty := 40) rfl _ _ w.heap.size 40 _ (0, 0) _ rfl (setRow_heap W2 w.heap.size _ _ 40 (0, 0) HZ3.out) Tryz.underlying40 rfl tok_info
   ·rw [if_neg (fun e => d1 e.2), if_neg (show ¬ ((((41 : UInt8).toNat : Nat) : Int) = 40 ∧ deep = 32) from fun e => absurd e.1 (by decide)), show deepOf (((41 : UInt8).toNat : Nat) : Int) deep = deep - 1 from rfl, show (((41 : UInt8).toNat : Nat) : Int).toNat.toUInt8 = 41 from rfl] at hg
    have dd1 : (deep == 1) = false := beq_eq_false_iff_ne.2 d1
    obtain ⟨m, hln, hg⟩ := Option.bind_eq_some_iff.1 hg
    have HL := Aside0.mk hln
    have HG := Aside0.mk hg
    clear hln hg
    go_wp2_with fail
    with_reducible refine (tok_line.calls rest m _ HL.out).mono ?_
    rintro e W2 ⟨rfl, ⟨nd, rfl⟩⟩
    have HI3 : Aside0 (IsBd (w.heap.size + 1) (w.heap.size + 1) out (W1.drewN nd)) := HI1
    have HZ3 : Aside0 ((W1.drewN nd).heap[w.heap.size]? = some (.cells Z 40 (0, 0))) := HZ2
    have HB3 : Aside0 (Below w.heap.size w (W1.drewN nd)) := ⟨pw_below_drewN HB1.out nd⟩
    have hs2 : w.heap.size + 2 ≤ (W1.drewN nd).heap.size := hs1
    clear HZ2 HB1 HI1 hs1
    generalize W1.drewN nd = W2 at HI3 HZ3 HB3 hs2 ⊢
    have hg := HG.out
    clear HG
    split at hg
    ·rename_i hm
     have HG := Aside0.mk hg
     have hm2 : decide (0 < m) = true := decide_eq_true hm.1
     have hm0 := hm.1
     have hm1 := hm.2
     clear hg hm
     go_wp2_with (go_at_call 66; refine (WriteByte_k (w.heap.size + 1) (w.heap.size + 1) _ 10 _ HI3.out ?c1 ?c2).mono ?_)
     case c1 => rw [Lib.byteCells_length]; omega
     case c2 => omega
     rintro e W3 ⟨rfl, h3, b3, -⟩
     have HI4 : Aside0 (IsBd (w.heap.size + 1) (w.heap.size + 1) (out ++ [10]) W3) := ⟨by rw [IsBd, Lib.byteCells_append]; exact .inr h3⟩
     have HZ4 : Aside0 (W3.heap[w.heap.size]? = some (.cells Z 40 (0, 0))) := ⟨(b3.block w.heap.size (by omega)).trans HZ3.out⟩
     have HB4 : Aside0 (Below w.heap.size w W3) := ⟨HB3.out.trans (b3.mono (by omega))⟩
     have hs3 : w.heap.size + 2 ≤ W3.heap.size := by have := b3.size; omega
     clear h3 b3 HZ3 HB3 HI3
     go_wp2
     go_step3
     refine ⟨rfl, ⟨n, _, deep - 1, p + m, _, _, _, _, _, _, _, _, _, _, _, _, _, _, _, _, _, _, _, _, _, _, _, _, _, _, _, _, _, _, _, _, _, _, _, _, _, _, _, _, _, _, _, _, _, _, _, _, _, _, _, _, _, _, _, _, _, _, _, _, _, _, _, _, _, _, _, _, _, _, _, _, _, _, _, _, _, _, _, _, _, _, _, _, _, _, rfl, HG, by omega, HI4, HB4, HZ4, hs3⟩, ?_⟩
     simp [intOf]
     omega
    ·split at hg
     case isFalse => cases hg
     rename_i hm
     subst hm
     have HG := Aside0.mk hg
     clear hg
     go_wp2_with (go_at_call 66; refine (WriteByte_k (w.heap.size + 1) (w.heap.size + 1) _ 41 _ HI3.out ?c1 ?c2).mono ?_)
     case c1 => rw [Lib.byteCells_length]; omega
     case c2 => omega
     rintro e W3 ⟨rfl, h3, b3, -⟩
     have HI4 : Aside0 (IsBd (w.heap.size + 1) (w.heap.size + 1) (out ++ [41]) W3) := ⟨by rw [IsBd, Lib.byteCells_append]; exact .inr h3⟩
     have HZ4 : Aside0 (W3.heap[w.heap.size]? = some (.cells Z 40 (0, 0))) := ⟨(b3.block w.heap.size (by omega)).trans HZ3.out⟩
     have HB4 : Aside0 (Below w.heap.size w W3) := ⟨HB3.out.trans (b3.mono (by omega))⟩
     have hs3 : w.heap.size + 2 ≤ W3.heap.size := by have := b3.size; omega
     clear h3 b3 HZ3 HB3 HI3
     go_wp2
     go_step3
     refine ⟨rfl, ⟨n, _, deep - 1, p + 1, _, _, _, _, _, _, _, _, _, _, _, _, _, _, _, _, _, _, _, _, _, _, _, _, _, _, _, _, _, _, _, _, _, _, _, _, _, _, _, _, _, _, _, _, _, _, _, _, _, _, _, _, _, _, _, _, _, _, _, _, _, _, _, _, _, _, _, _, _, _, _, _, _, _, _, _, _, _, _, _, _, _, _, _, _, _, rfl, HG, by omega, HI4, HB4, HZ4, hs3⟩, ?_⟩
     simp [intOf]
     omega
  rw [if_neg (show ¬ ((c.toNat : Int) = 41 ∧ deep = 1) from fun e => e41 (UInt8.toNat_inj.1 (by show c.toNat = 41; omega)))] at hg
  by_cases e40 : c = 40
  ·subst e40
   by_cases d32 : deep = 32
   ·subst d32
    rw [if_pos (show (((40 : UInt8).toNat : Nat) : Int) = 40 ∧ (32 : Int) = 32 from ⟨rfl, rfl⟩)] at hg
    simp only [Option.some.injEq, Prod.mk.injEq] at hg
    obtain ⟨rfl, rfl, rfl, rfl, rfl, rfl⟩ := hg
    go_wp2_with (refine wpList_store_row rfl 40 (.tmp 4) (.tmp 73) rfl w.heap.size #[.int .i64 0, .int .i64 0, .int .i64 0, .string ⟨#[]⟩] rfl rfl 40 _ HZ2.out tok_info (by rw [hzs]; rfl) (tok_one _ _ _ _) ?_)
    simp only [Exit.jump]
    refine bodyPost_ret (v := .tuple #[.agg #[.int .i64 0, .int .i64 0, .int .i64 0, .string ⟨#[]⟩], .int .i64 p, .int .i64 5]) ?_ rfl ⟨rfl, below_setRow HB1.out (Nat.le_refl _) _⟩
    exact results_ctt (fn := Tryz.f44) (p := 4) (u := 5) (v := 6) (ty := 40) rfl _ _ w.heap.size 40 _ (0, 0) _ rfl (setRow_heap W1 w.heap.size _ _ 40 (0, 0) HZ2.out) Tryz.underlying40 rfl tok_info
   ·rw [if_neg (fun e => d32 e.2), show deepOf (((40 : UInt8).toNat : Nat) : Int) deep = deep + 1 from rfl, show (((40 : UInt8).toNat : Nat) : Int).toNat.toUInt8 = 40 from rfl] at hg
    have dd32 : (deep == 32) = false := beq_eq_false_iff_ne.2 d32
    obtain ⟨m, hln, hg⟩ := Option.bind_eq_some_iff.1 hg
    have HL := Aside0.mk hln
    have HG := Aside0.mk hg
    clear hln hg
    go_wp2_with fail
    with_reducible refine (tok_line.calls rest m _ HL.out).mono ?_
    rintro e W2 ⟨rfl, ⟨nd, rfl⟩⟩
    have HI3 : Aside0 (IsBd (w.heap.size + 1) (w.heap.size + 1) out (W1.drewN nd)) := HI1
    have HZ3 : Aside0 ((W1.drewN nd).heap[w.heap.size]? = some (.cells Z 40 (0, 0))) := HZ2
    have HB3 : Aside0 (Below w.heap.size w (W1.drewN nd)) := ⟨pw_below_drewN HB1.out nd⟩
    have hs2 : w.heap.size + 2 ≤ (W1.drewN nd).heap.size := hs1
    clear HZ2 HB1 HI1 hs1
    generalize W1.drewN nd = W2 at HI3 HZ3 HB3 hs2 ⊢
    have hg := HG.out
    clear HG
    split at hg
    ·rename_i hm
     have HG := Aside0.mk hg
     have hm2 : decide (0 < m) = true := decide_eq_true hm.1
     have hm0 := hm.1
     have hm1 := hm.2
     clear hg hm
     go_wp2_with (go_at_call 66; refine (WriteByte_k (w.heap.size + 1) (w.heap.size + 1) _ 10 _ HI3.out ?c1 ?c2).mono ?_)
     case c1 => rw [Lib.byteCells_length]; omega
     case c2 => omega
     rintro e W3 ⟨rfl, h3, b3, -⟩
     have HI4 : Aside0 (IsBd (w.heap.size + 1) (w.heap.size + 1) (out ++ [10]) W3) := ⟨by rw [IsBd, Lib.byteCells_append]; exact .inr h3⟩
     have HZ4 : Aside0 (W3.heap[w.heap.size]? = some (.cells Z 40 (0, 0))) := ⟨(b3.block w.heap.size (by omega)).trans HZ3.out⟩
     have HB4 : Aside0 (Below w.heap.size w W3) := ⟨HB3.out.trans (b3.mono (by omega))⟩
     have hs3 : w.heap.size + 2 ≤ W3.heap.size := by have := b3.size; omega
     clear h3 b3 HZ3 HB3 HI3
     go_wp2
     go_step3
     refine ⟨rfl, ⟨n, _, deep + 1, p + m, _, _, _, _, _, _, _, _, _, _, _, _, _, _, _, _, _, _, _, _, _, _, _, _, _, _, _, _, _, _, _, _, _, _, _, _, _, _, _, _, _, _, _, _, _, _, _, _, _, _, _, _, _, _, _, _, _, _, _, _, _, _, _, _, _, _, _, _, _, _, _, _, _, _, _, _, _, _, _, _, _, _, _, _, _, _, rfl, HG, by omega, HI4, HB4, HZ4, hs3⟩, ?_⟩
     simp [intOf]
     omega
    ·split at hg
     case isFalse => cases hg
     rename_i hm
     subst hm
     have HG := Aside0.mk hg
     clear hg
     go_wp2_with (go_at_call 66; refine (WriteByte_k (w.heap.size + 1) (w.heap.size + 1) _ 40 _ HI3.out ?c1 ?c2).mono ?_)
     case c1 => rw [Lib.byteCells_length]; omega
     case c2 => omega
     rintro e W3 ⟨rfl, h3, b3, -⟩
     have HI4 : Aside0 (IsBd (w.heap.size + 1) (w.heap.size + 1) (out ++ [40]) W3) := ⟨by rw [IsBd, Lib.byteCells_append]; exact .inr h3⟩
     have HZ4 : Aside0 (W3.heap[w.heap.size]? = some (.cells Z 40 (0, 0))) := ⟨(b3.block w.heap.size (by omega)).trans HZ3.out⟩
     have HB4 : Aside0 (Below w.heap.size w W3) := ⟨HB3.out.trans (b3.mono (by omega))⟩
     have hs3 : w.heap.size + 2 ≤ W3.heap.size := by have := b3.size; omega
     clear h3 b3 HZ3 HB3 HI3
     go_wp2
     go_step3
     refine ⟨rfl, ⟨n, _, deep + 1, p + 1, _, _, _, _, _, _, _, _, _, _, _, _, _, _, _, _, _, _, _, _, _, _, _, _, _, _, _, _, _, _, _, _, _, _, _, _, _, _, _, _, _, _, _, _, _, _, _, _, _, _, _, _, _, _, _, _, _, _, _, _, _, _, _, _, _, _, _, _, _, _, _, _, _, _, _, _, _, _, _, _, _, _, _, _, _, _, rfl, HG, by omega, HI4, HB4, HZ4, hs3⟩, ?_⟩
     simp [intOf]
     omega
  rw [if_neg (show ¬ ((c.toNat : Int) = 40 ∧ deep = 32) from fun e => e40 (UInt8.toNat_inj.1 (by show c.toNat = 40; omega)))] at hg
  have n92 : (c.toNat : Int) ≠ 92 := fun e => e92 (UInt8.toNat_inj.1 (by show c.toNat = 92; omega))
  have n41 : (c.toNat : Int) ≠ 41 := fun e => e41 (UInt8.toNat_inj.1 (by show c.toNat = 41; omega))
  have n40 : (c.toNat : Int) ≠ 40 := fun e => e40 (UInt8.toNat_inj.1 (by show c.toNat = 40; omega))
  rw [show deepOf (c.toNat : Int) deep = deep from by unfold deepOf; rw [if_neg n41, if_neg n40], show (c.toNat : Int).toNat.toUInt8 = c from by rw [Int.toNat_natCast]; exact UInt8.ofNat_toNat] at hg
  replace n92 : ((c.toNat : Int) == 92) = false := beq_eq_false_iff_ne.2 n92
  replace n41 : ((c.toNat : Int) == 41) = false := beq_eq_false_iff_ne.2 n41
  replace n40 : ((c.toNat : Int) == 40) = false := beq_eq_false_iff_ne.2 n40
  have h256 := c.toNat_lt
  clear e92 e41 e40
  obtain ⟨m, hln, hg⟩ := Option.bind_eq_some_iff.1 hg
  have HL := Aside0.mk hln
  have HG := Aside0.mk hg
  clear hln hg
  go_wp2_with fail
  with_reducible refine (tok_line.calls rest m _ HL.out).mono ?_
  rintro e W2 ⟨rfl, ⟨nd, rfl⟩⟩
  have HI3 : Aside0 (IsBd (w.heap.size + 1) (w.heap.size + 1) out (W1.drewN nd)) := HI1
  have HZ3 : Aside0 ((W1.drewN nd).heap[w.heap.size]? = some (.cells Z 40 (0, 0))) := HZ2
  have HB3 : Aside0 (Below w.heap.size w (W1.drewN nd)) := ⟨pw_below_drewN HB1.out nd⟩
  have hs2 : w.heap.size + 2 ≤ (W1.drewN nd).heap.size := hs1
  clear HZ2 HB1 HI1 hs1
  generalize W1.drewN nd = W2 at HI3 HZ3 HB3 hs2 ⊢
  have hg := HG.out
  clear HG
  split at hg
  ·rename_i hm
   have HG := Aside0.mk hg
   have hm2 : decide (0 < m) = true := decide_eq_true hm.1
   have hm0 := hm.1
   have hm1 := hm.2
   clear hg hm
   go_wp2_with (go_at_call 66; refine (WriteByte_k (w.heap.size + 1) (w.heap.size + 1) _ 10 _ HI3.out ?c1 ?c2).mono ?_)
   case c1 => rw [Lib.byteCells_length]; omega
   case c2 => omega
   rintro e W3 ⟨rfl, h3, b3, -⟩
   have HI4 : Aside0 (IsBd (w.heap.size + 1) (w.heap.size + 1) (out ++ [10]) W3) := ⟨by rw [IsBd, Lib.byteCells_append]; exact .inr h3⟩
   have HZ4 : Aside0 (W3.heap[w.heap.size]? = some (.cells Z 40 (0, 0))) := ⟨(b3.block w.heap.size (by omega)).trans HZ3.out⟩
   have HB4 : Aside0 (Below w.heap.size w W3) := ⟨HB3.out.trans (b3.mono (by omega))⟩
   have hs3 : w.heap.size + 2 ≤ W3.heap.size := by have := b3.size; omega
   clear h3 b3 HZ3 HB3 HI3
   go_wp2
   go_step3
   refine ⟨rfl, ⟨n, _, deep, p + m, _, _, _, _, _, _, _, _, _, _, _, _, _, _, _, _, _, _, _, _, _, _, _, _, _, _, _, _, _, _, _, _, _, _, _, _, _, _, _, _, _, _, _, _, _, _, _, _, _, _, _, _, _, _, _, _, _, _, _, _, _, _, _, _, _, _, _, _, _, _, _, _, _, _, _, _, _, _, _, _, _, _, _, _, _, _, rfl, HG, by omega, HI4, HB4, HZ4, hs3⟩, ?_⟩
   simp [intOf]
   omega
  ·split at hg
   case isFalse => cases hg
   rename_i hm
   subst hm
   have HG := Aside0.mk hg
   clear hg
   go_wp2_with (go_at_call 66; refine (WriteByte_k (w.heap.size + 1) (w.heap.size + 1) _ (c.toNat : Int) _ HI3.out ?c1 ?c2).mono ?_)
   case c1 => rw [Lib.byteCells_length]; omega
   case c2 => omega
   rintro e W3 ⟨rfl, h3, b3, -⟩
   have HI4 : Aside0 (IsBd (w.heap.size + 1) (w.heap.size + 1) (out ++ [c]) W3) := ⟨by rw [IsBd, Lib.byteCells_append]; exact .inr h3⟩
   have HZ4 : Aside0 (W3.heap[w.heap.size]? = some (.cells Z 40 (0, 0))) := ⟨(b3.block w.heap.size (by omega)).trans HZ3.out⟩
   have HB4 : Aside0 (Below w.heap.size w W3) := ⟨HB3.out.trans (b3.mono (by omega))⟩
   have hs3 : w.heap.size + 2 ≤ W3.heap.size := by have := b3.size; omega
   clear h3 b3 HZ3 HB3 HI3
   go_wp2
   go_step3
   refine ⟨rfl, ⟨n, _, deep, p + 1, _, _, _, _, _, _, _, _, _, _, _, _, _, _, _, _, _, _, _, _, _, _, _, _, _, _, _, _, _, _, _, _, _, _, _, _, _, _, _, _, _, _, _, _, _, _, _, _, _, _, _, _, _, _, _, _, _, _, _, _, _, _, _, _, _, _, _, _, _, _, _, _, _, _, _, _, _, _, _, _, _, _, _, _, _, _, rfl, HG, by omega, HI4, HB4, HZ4, hs3⟩, ?_⟩
   simp [intOf]
   omega
end Go.Proofs.YtjplnhdplpiogaaGreatDoor.M
end
section
namespace Go.Proofs.YtjplnhdplpiogaaGreatDoor.M
open Go.RowKit Go.Extern.Stop Go.Stop Go.Extern Go.Extern.Rtype Go.Proofs.YtjplnhdplpiogaaGreatDoorW.PrintWords
set_option linter.unusedVariables false
theorem isTypeOf (v : Value) (w : World) : (Extern.ReflectliteType.typeOf #[.iface 208 v]).run Tryz.prog w = .ok (.iface 185 (.agg #[.pointer (some ⟨8, 208, none⟩)])) w := by kernel_rfl
theorem isComparable (w : World) : ((Extern.ReflectliteType.method fun t => do noPackHeld "Comparable" t; (fun a => Value.bool a.comparable) <$> typeInfo t) #[.agg #[.pointer (some ⟨8, 208, none⟩)]]).run Tryz.prog w = .ok (.bool true) w := by kernel_rfl
theorem isMethodComparable (v : Value) (w : World) : (Go.method 359 185 v "Comparable").run Tryz.prog w = .ok (203, v) w := by kernel_rfl
theorem isComp : (Tryz.prog.info? 208).map (·.comparable) = some true := by kernel_rfl
theorem isSize : (Tryz.prog.info? 210).map (·.size) = some 1 := by kernel_rfl
theorem noIsE (v : Value) (xT : TypeId) (w : World) : (Instr.typeAssert (.iface 208 v) xT 187 true).run Tryz.prog w = .ok (.tuple #[.nilIface, .bool false]) w := run_typeAssert_lacksB Tryz.underlying187 (by kernel_rfl) (by kernel_rfl) v xT w
theorem noIsW (v : Value) (xT : TypeId) (w : World) : (Instr.typeAssert (.iface 181 v) xT 187 true).run Tryz.prog w = .ok (.tuple #[.nilIface, .bool false]) w := run_typeAssert_lacksB Tryz.underlying187 (by kernel_rfl) (by kernel_rfl) v xT w
theorem hasUnwrapW (v : Value) (xT : TypeId) (w : World) : (Instr.typeAssert (.iface 181 v) xT 190 true).run Tryz.prog w = .ok (.tuple #[.iface 181 v, .bool true]) w := run_typeAssert_hasB Tryz.underlying190 (by kernel_rfl) v xT w
theorem methodUnwrap (v : Value) (w : World) : (Go.method 359 181 v "Unwrap").run Tryz.prog w = .ok (199, v) w := by kernel_rfl
theorem is_nil (b : Addr) (w : World) :
  Calls Tryz.prog 98 #[.nilIface, .iface 208 (.pointer (some b))] w fun e w' => e = .returned (.bool false) ∧ w' = w := by
 have hn := run_eql_iface_nil_left (P := Tryz.prog) w 208 (.pointer (some b)) Tryz.underlying112
 go_enter Tryz.func98, Tryz.ntmps98
 go_wp2
 go_ret
 exact ⟨rfl, rfl⟩
set_option maxHeartbeats 1000000 in
set_option maxRecDepth 1000000 in
theorem is_wrap_same (pb : Nat) (b : Addr) (w : World) (h1 : w.cell? ⟨pb, 2, none⟩ = some (.iface 208 (.pointer (some b)))) :
  Calls Tryz.prog 98 #[.iface 181 (.pointer (some ⟨pb, 0, none⟩)), .iface 208 (.pointer (some b))] w fun e w' => e = .returned (.bool true) ∧ w' = w := by
 obtain ⟨i, hi, hcmp⟩ := Option.map_eq_some_iff.1 isComp
 obtain ⟨j, hj, hjs⟩ := Option.map_eq_some_iff.1 isSize
 have h8 := @run_callFunc_extern Tryz.prog 120 _ Extern.ReflectliteType.typeOf Tryz.func120 (by kernel_rfl) (by kernel_rfl) (by kernel_rfl) (by kernel_rfl)
 have h32 := @run_callFunc_extern Tryz.prog 203 _ (Extern.ReflectliteType.method fun t => do noPackHeld "Comparable" t; pure (.bool (← typeInfo t).comparable)) Tryz.func203 (by kernel_rfl) (by kernel_rfl) (by kernel_rfl) (by kernel_rfl)
 have tT := isTypeOf
 have cT := isComparable
 have mR := isMethodComparable
 have nE := noIsE
 have nW := noIsW
 have uW := hasUnwrapW
 have mU := methodUnwrap
 have heq := run_eql_iface_ptr_same (P := Tryz.prog) w b Tryz.underlying112 Tryz.underlying208 hi hcmp hj
 have hty := run_eql_iface_types (P := Tryz.prog) 181 208 (.pointer (some ⟨pb, 0, none⟩)) (.pointer (some b)) Tryz.underlying112 (by decide) w
 go_enter Tryz.func98, Tryz.ntmps98
 go_wp2
 refine wp_loop_rounds 2 ?_
 rw [rounds_succ]
 go_wp2
 rw [rounds_succ]
 go_wp2
 go_ret
 exact ⟨rfl, rfl⟩
end Go.Proofs.YtjplnhdplpiogaaGreatDoor.M
end
section
namespace Go.Proofs.YtjplnhdplpiogaaGreatDoor.M
open Go.RowKit Go.Proofs.YtjplnhdplpiogaaGreatDoorW.PrintWords
set_option linter.unusedVariables false
/-- A text's number, and the error's number: 3 no number, 4 too great. -/
def lexInt (l : List UInt8) : Int × Int := if wholeB l then (match Lib.parseIntB 32 l with | .ok v => (v, 0) | _ => (0, 4)) else (0, 3)
def lex_Int.f (a0 : ByteArray) : Option (Int × Int) := if a0.size ≤ 281474976710656 then some (lexInt a0.data.toList) else none
/-- Neither a number nor one that is too great. -/
def badNum {α : Type} : Lib.NumEnd α → Bool
 | .ok _ => false
 | .range => false
 | _ => true
theorem parseUintM_digits (M : Nat) : ∀ (l : List UInt8) (acc : Nat), l.all isDigB = true → badNum (Lib.parseUintM M acc l) = false
 | [], acc, _ => by simp [Lib.parseUintM, badNum]
 | c :: r, acc, h => by
  simp only [List.all_cons, Bool.and_eq_true, isDigB, decide_eq_true_eq] at h
  unfold Lib.parseUintM
  rw [if_pos ⟨h.1.1, h.1.2⟩]
  split
  ·rfl
  ·split
   ·rfl
   ·exact parseUintM_digits M r _ h.2
theorem parse_whole (l : List UInt8) (h : wholeB l = true) : badNum (Lib.parseIntB 32 l) = false := by
 match l with
 | [] => simp [wholeB, unsign] at h
 | c :: r =>
  have key : ∀ ds : List UInt8, ds ≠ [] → ds.all isDigB = true → badNum (Lib.parseUintB 32 ds) = false := by
   intro ds h1 h2
   unfold Lib.parseUintB
   rw [if_neg h1]
   exact parseUintM_digits _ _ _ h2
  have hu : (if c.toNat = 43 ∨ c.toNat = 45 then r else c :: r) = unsign (c :: r) := by
   have e1 : (c == 43) = decide (c.toNat = 43) := by rw [Bool.eq_iff_iff, beq_iff_eq, decide_eq_true_eq, ← UInt8.toNat_inj]; rfl
   have e2 : (c == 45) = decide (c.toNat = 45) := by rw [Bool.eq_iff_iff, beq_iff_eq, decide_eq_true_eq, ← UInt8.toNat_inj]; rfl
   simp [unsign, e1, e2]
  simp only [wholeB, Bool.and_eq_true, Bool.not_eq_true', List.isEmpty_eq_false_iff] at h
  have hk := key _ h.1 h.2
  unfold Lib.parseIntB
  simp only
  rw [hu]
  cases hp : Lib.parseUintB 32 (unsign (c :: r)) with
  | ok u =>
   simp only
   split
   ·rfl
   ·split
    ·rfl
    ·split <;> rfl
  | range => rfl
  | _ => rw [hp] at hk; exact absurd hk (by decide)
set_option maxHeartbeats 1000000 in
set_option maxRecDepth 1000000 in
theorem lex_Int.calls (a0 : ByteArray) (r1 r2 : Int) (w : World) (hG : GW w) (h : lex_Int.f a0 = some (r1, r2)) :
  Calls Tryz.prog 73 #[.string a0] w fun e w' => e = .returned (.tuple #[.int .i64 r1, .int .i64 r2]) ∧ Below w.heap.size w w' := by
 unfold lex_Int.f at h
 split at h
 case isFalse => cases h
 rename_i hl
 have he := Option.some.inj h
 clear h
 have hwh := whole_eq a0 (by omega)
 have HG := Aside0.mk hG
 clear hG
 unfold lexInt at he
 cases hb : wholeB a0.data.toList with
 | false =>
  rw [hb] at he hwh
  obtain ⟨rfl, rfl⟩ : 0 = r1 ∧ 3 = r2 := by simpa using he
  have HW := Aside0.mk hwh
  clear hwh he hb
  go_enter Tryz.func73, Tryz.ntmps73
  go_wp2_with (go_at_call 96; with_reducible refine (lex_whole.calls _ _ _ HW.out).mono ?_)
  rintro e w1 ⟨rfl, b1⟩
  go_wp2
  go_ret2
  exact ⟨rfl, b1⟩
 | true =>
  rw [hb] at he hwh
  have hns := parse_whole _ hb
  have HW := Aside0.mk hwh
  simp only [if_true] at he
  cases hp : Lib.parseIntB 32 a0.data.toList with
  | ok v =>
   rw [hp] at he
   obtain ⟨rfl, rfl⟩ : v = r1 ∧ 0 = r2 := by simpa using he
   have HP := Aside0.mk hp
   clear hwh he hb hp hns
   go_enter Tryz.func73, Tryz.ntmps73
   go_wp2_with (go_at_call 96; with_reducible refine (lex_whole.calls _ _ _ HW.out).mono ?_)
   rintro e w1 ⟨rfl, b1⟩
   go_wp2_with (go_at_call 97; with_reducible refine (Tryz.strconv_ParseInt_10_at32_ok _ (by omega) _ HP.out _).mono ?_)
   rintro e w2 ⟨rfl, hw2⟩
   have b2 : Below w.heap.size w w2 := by
    rcases hw2 with rfl | ⟨t, rfl⟩
    ·exact b1
    ·exact below_then b1 b1.size (Lib.bytesWorld_below _ _ _)
   clear hw2
   obtain ⟨a, ha⟩ := (GW.below b2 HG.out).range
   go_wp2_with (go_at_call 98; with_reducible refine (is_nil _ _).mono ?_)
   rintro e w3 ⟨rfl, rfl⟩
   go_wp2
   go_ret2
   exact ⟨rfl, b2⟩
  | range =>
   rw [hp] at he
   obtain ⟨rfl, rfl⟩ : 0 = r1 ∧ 4 = r2 := by simpa using he
   have HP := Aside0.mk hp
   clear hwh he hb hp hns
   go_enter Tryz.func73, Tryz.ntmps73
   go_wp2_with (go_at_call 96; with_reducible refine (lex_whole.calls _ _ _ HW.out).mono ?_)
   rintro e w1 ⟨rfl, b1⟩
   obtain ⟨a, ha⟩ := (GW.below b1 HG.out).range
   have HA := Aside0.mk ha
   clear ha
   go_wp2_with (go_at_call 97; with_reducible refine (Tryz.strconv_ParseInt_10_at32_range _ (by omega) HP.out _ _ HA.out (.inr ⟨_, _, rfl⟩)).mono ?_)
   rintro e w2 ⟨N, rfl, hN, hN2, b2⟩
   have ha2 := pw_cell_below b2 HA.out
   have hc2 : w2.cell? ⟨N, 2, none⟩ = some (.iface 208 (.pointer (some a))) := by rw [Lib.cell_of_heap hN2]; rfl
   replace b1 := below_then b1 b1.size b2
   clear hN hN2 b2
   go_wp2_with (go_at_call 98; with_reducible refine (is_wrap_same _ _ _ hc2).mono ?_)
   rintro e w3 ⟨rfl, rfl⟩
   go_wp2
   go_ret2
   exact ⟨rfl, b1⟩
  | _ => rw [hp] at hns; exact absurd hns (by decide)
end Go.Proofs.YtjplnhdplpiogaaGreatDoor.M
end
section
namespace Go.Proofs.YtjplnhdplpiogaaGreatDoor.M
open Go.RowKit Go.Proofs.YtjplnhdplpiogaaGreatDoorW.PrintWords Go.Proofs.YtjplnhdplpiogaaGreatDoorW.PrintLast Go.Proofs.YtjplnhdplpiogaaGreatDoorW.PrintMore
attribute [local go_sem] max2_int min2_int max_two min_two max_three min_three max_four min_four
set_option linter.unusedVariables false
set_option linter.unusedSimpArgs false
def tok_source_worded.f (k : Nat) (a0 : ByteArray) (a1 : Int) : Option (Int × Int × Int × ByteArray × Int × Int) := (lex_Word.f k a0 a1).bind fun bt149 => ((lex_Int.f bt149.1).bind fun bt151 => (if bt151.2 = 0 then (some (1, a1, bt151.1, (⟨#[]⟩ : ByteArray), bt149.2, 0)) else (if bt151.2 = 3 then (some (3, a1, 0, bt149.1, bt149.2, 0)) else (some (0, 0, 0, (⟨#[]⟩ : ByteArray), a1, bt151.2)))))
theorem tok_source_worded.mono : ∀ a0 a1 k, LeO (tok_source_worded.f k a0 a1) (tok_source_worded.f (k + 1) a0 a1) := by
 intro a0 a1 k
 unfold tok_source_worded.f
 repeat' first
   | (with_reducible exact lex_Word.mono _ _ _)
   | (with_reducible exact LeO.refl _)
   | (with_reducible exact LeO.none _)
   | (with_reducible refine LeO.ite ?_ ?_)
   | (with_reducible refine LeO.bind ?_ (fun _ => ?_))
   | exact lex_Word.mono _ _ _
   | exact LeO.none _
   | refine LeO.ite ?_ ?_
   | refine LeO.bind ?_ (fun _ => ?_)
set_option maxHeartbeats 8000000 in
set_option maxRecDepth 100000 in
theorem tok_source_worded.calls (k : Nat) (a0 : ByteArray) (a1 : Int) (r1 : Int) (r2 : Int) (r3 : Int) (r4 : ByteArray) (r5 : Int) (r6 : Int) (w : World) (hG : GW w) (h : tok_source_worded.f k a0 a1 = some (r1, r2, r3, r4, r5, r6)) :
  Calls Tryz.prog 45 #[.string a0, .int .i64 a1] w fun e w' => e = .returned (.tuple #[.agg #[.int .i64 r1, .int .i64 r2, .int .i64 r3, .string r4], .int .i64 r5, .int .i64 r6]) ∧ Below w.heap.size w w' := by
 have hu40 := Tryz.underlying40
 have HG := Aside0.mk hG
 clear hG
 have HB := Aside0.mk (Below.refl w.heap.size w)
 have H : ((lex_Word.f k a0 a1).bind fun bt149 => ((lex_Int.f bt149.1).bind fun bt151 => (if bt151.2 = 0 then (some (1, a1, bt151.1, (⟨#[]⟩ : ByteArray), bt149.2, 0)) else (if bt151.2 = 3 then (some (3, a1, 0, bt149.1, bt149.2, 0)) else (some (0, 0, 0, (⟨#[]⟩ : ByteArray), a1, bt151.2)))))) = some (r1, r2, r3, r4, r5, r6) := h
 clear h
 replace H := Option.bind_eq_some_iff.mp H
 obtain ⟨⟨t149, t150⟩, A30, H⟩ := H
 replace H : ((lex_Int.f t149).bind fun bt151 => (if bt151.2 = 0 then (some (1, a1, bt151.1, (⟨#[]⟩ : ByteArray), t150, 0)) else (if bt151.2 = 3 then (some (3, a1, 0, t149, t150, 0)) else (some (0, 0, 0, (⟨#[]⟩ : ByteArray), a1, bt151.2))))) = some (r1, r2, r3, r4, r5, r6) := H
 have A3 := Aside0.mk A30
 clear A30
 replace H := Option.bind_eq_some_iff.mp H
 obtain ⟨⟨t151, t152⟩, A40, H⟩ := H
 replace H : (if t152 = 0 then (some (1, a1, t151, (⟨#[]⟩ : ByteArray), t150, 0)) else (if t152 = 3 then (some (3, a1, 0, t149, t150, 0)) else (some (0, 0, 0, (⟨#[]⟩ : ByteArray), a1, t152)))) = some (r1, r2, r3, r4, r5, r6) := H
 have A4 := Aside0.mk A40
 clear A40
 by_cases c5 : t152 = 0
 ·rw [if_pos c5] at H
  have c5b0 : (t152 == 0) = true := beq_iff_eq.mpr c5
  have c5b1 : (t152 != 0) = false := bne_eq_false_iff_eq.mpr c5
  clear c5
  simp only [Option.some.injEq, Prod.mk.injEq] at H
  obtain ⟨rfl, rfl, rfl, rfl, rfl, rfl⟩ := H
  go_enter Tryz.func45, Tryz.ntmps45
  go_wp2_with (first | ((with_reducible refine gate_dst (N := 4) rfl ?_); refine box_event ?hg (N := 4) ?hd (cs := #[.int .i64 0, .int .i64 0, .int .i64 0, .string (⟨#[]⟩ : ByteArray)]) (t := 40) ?hr ?_; (case hd => rfl); (case hg => rfl); (case hr => first | (go_simp; done) | (go_simp; rfl)); intro gb148 hg w6 hbox hb; have n0_ := Aside0.mk (below_step (by repeat (first | (with_reducible first | exact HB.out | apply below_alloc | apply pw_below_drewN | apply below_drew1) | exact HB.out)) hb); have n1_ := Aside0.mk (hbox); have n2_ := Aside0.mk ((by rw [hg]; exact (below_size (by repeat (first | (with_reducible first | exact HB.out | apply below_alloc | apply pw_below_drewN | apply below_drew1) | exact HB.out))) : w.heap.size ≤ gb148)); have n3_ := Aside0.mk ((by rw [hg]; exact (below_size (by repeat (first | (with_reducible first | exact HB.out | apply below_alloc | apply pw_below_drewN | apply below_drew1) | exact HB.out))) : w.heap.size ≤ gb148)); clear HB; have HB := n0_; have BK148 := n1_; have GW148 := n2_; have GE148 := n3_; clear n0_ n1_ n2_ n3_; clear hb hbox hg) | ((with_reducible refine gate_callee (f := 41) rfl ?_); refine goesL_ (some 14) rfl rfl Tryz.func41 (by kernel_rfl) rfl #[.string a0, .int .i64 a1] rfl (by (try simp only [List.map_toArray, List.map_cons, List.map_nil]); first | done | rfl | (simp only [List.length_drop, List.length_take]; rfl)) ?_; (with_reducible refine (lex_Word.calls k a0 a1 t149 t150 _ A3.out).mono ?_); rintro e w7 ⟨rfl, hb⟩; refine ⟨_, rfl, ?_⟩; have n0_ := Aside0.mk (blk_below (g := gb148) (o := .cells #[.int .i64 0, .int .i64 0, .int .i64 0, .string (⟨#[]⟩ : ByteArray)] 40 (0, 0)) (by (with_reducible repeat (first | refine blk_drewN ?_ _ | refine blk_drew ?_ | refine blk_alloc ?_ _)); exact BK148.out) hb); have n1_ := Aside0.mk (below_step (by repeat (first | (with_reducible first | exact HB.out | apply below_alloc | apply pw_below_drewN | apply below_drew1 | refine below_set ?_ GE148.out) | exact HB.out)) hb); clear BK148; clear HB; have BK148 := n0_; have HB := n1_; clear n0_ n1_; (try clear hb); (try clear hb2); (try clear hk); (try clear hi)) | ((with_reducible refine gate_callee (f := 73) rfl ?_); refine goesL_ (some 19) rfl rfl Tryz.func73 (by kernel_rfl) rfl #[.string t149] rfl (by (try simp only [List.map_toArray, List.map_cons, List.map_nil]); first | done | rfl | (simp only [List.length_drop, List.length_take]; rfl)) ?_; (with_reducible refine (lex_Int.calls t149 t151 t152 _ ?side1 A4.out).mono ?_); (case side1 => exact GW.below (by repeat (first | (with_reducible first | exact HB.out | apply below_alloc | apply pw_below_drewN | apply below_drew1 | refine below_set ?_ GE148.out) | exact HB.out)) HG.out); rintro e w8 ⟨rfl, hb⟩; refine ⟨_, rfl, ?_⟩; have n0_ := Aside0.mk (blk_below (g := gb148) (o := .cells #[.int .i64 0, .int .i64 0, .int .i64 0, .string (⟨#[]⟩ : ByteArray)] 40 (0, 0)) (by (with_reducible repeat (first | refine blk_drewN ?_ _ | refine blk_drew ?_ | refine blk_alloc ?_ _)); exact BK148.out) hb); have n1_ := Aside0.mk (below_step (by repeat (first | (with_reducible first | exact HB.out | apply below_alloc | apply pw_below_drewN | apply below_drew1 | refine below_set ?_ GE148.out) | exact HB.out)) hb); clear BK148; clear HB; have BK148 := n0_; have HB := n1_; clear n0_ n1_; (try clear hb); (try clear hb2); (try clear hk); (try clear hi); have hcz9_0 : w8.cell? ⟨gb148, 0, none⟩ = some (.int .i64 0) := (blk_cell BK148.out 0).trans rfl; have hcz9_1 : w8.cell? ⟨gb148, 1, none⟩ = some (.int .i64 0) := (blk_cell BK148.out 1).trans rfl; have hcz9_2 : w8.cell? ⟨gb148, 2, none⟩ = some (.int .i64 0) := (blk_cell BK148.out 2).trans rfl; have hcz9_3 : w8.cell? ⟨gb148, 3, none⟩ = some (.string (⟨#[]⟩ : ByteArray)) := (blk_cell BK148.out 3).trans rfl; have hfz9_0 := blk_frozen BK148.out 0; have hfz9_1 := blk_frozen BK148.out 1; have hfz9_2 := blk_frozen BK148.out 2; have hfz9_3 := blk_frozen BK148.out 3))
  refine bodyPost_ret (results_ctt rfl _ _ gb148 40 #[.int .i64 1, .int .i64 a1, .int .i64 t151, .string (⟨#[]⟩ : ByteArray)] (0, 0) _ rfl (by (with_reducible repeat (first | refine blk_drewN ?_ _ | refine blk_drew ?_ | refine blk_alloc ?_ _)); refine blk_put (cs := #[.int .i64 1, .int .i64 a1, .int .i64 t151, .string (⟨#[]⟩ : ByteArray)]) ?_ 3 _ rfl; (with_reducible repeat (first | refine blk_drewN ?_ _ | refine blk_drew ?_ | refine blk_alloc ?_ _)); refine blk_put (cs := #[.int .i64 1, .int .i64 a1, .int .i64 0, .string (⟨#[]⟩ : ByteArray)]) ?_ 2 _ rfl; (with_reducible repeat (first | refine blk_drewN ?_ _ | refine blk_drew ?_ | refine blk_alloc ?_ _)); refine blk_put (cs := #[.int .i64 1, .int .i64 0, .int .i64 0, .string (⟨#[]⟩ : ByteArray)]) ?_ 1 _ rfl; (with_reducible repeat (first | refine blk_drewN ?_ _ | refine blk_drew ?_ | refine blk_alloc ?_ _)); refine blk_put (cs := #[.int .i64 0, .int .i64 0, .int .i64 0, .string (⟨#[]⟩ : ByteArray)]) ?_ 0 _ rfl; (with_reducible repeat (first | refine blk_drewN ?_ _ | refine blk_drew ?_ | refine blk_alloc ?_ _)); exact BK148.out) Tryz.underlying40 rfl (by kernel_rfl)) rfl ?_
  exact ⟨by first | rfl | (simp [errW_none, errW_some] <;> rfl) | (simp [*, errW_none, errW_some] <;> rfl), by repeat (first | (with_reducible first | exact HB.out | apply below_alloc | apply pw_below_drewN | apply below_drew1 | refine below_set ?_ GE148.out) | exact HB.out)⟩
 ·rw [if_neg c5] at H
  have c5b0 : (t152 == 0) = false := beq_eq_false_iff_ne.mpr c5
  have c5b1 : (t152 != 0) = true := bne_iff_ne.mpr c5
  by_cases c10 : t152 = 3
  ·rw [if_pos c10] at H
   have c10b0 : (t152 == 3) = true := beq_iff_eq.mpr c10
   have c10b1 : (t152 != 3) = false := bne_eq_false_iff_eq.mpr c10
   clear c10
   simp only [Option.some.injEq, Prod.mk.injEq] at H
   obtain ⟨rfl, rfl, rfl, rfl, rfl, rfl⟩ := H
   go_enter Tryz.func45, Tryz.ntmps45
   go_wp2_with (first | ((with_reducible refine gate_dst (N := 4) rfl ?_); refine box_event ?hg (N := 4) ?hd (cs := #[.int .i64 0, .int .i64 0, .int .i64 0, .string (⟨#[]⟩ : ByteArray)]) (t := 40) ?hr ?_; (case hd => rfl); (case hg => rfl); (case hr => first | (go_simp; done) | (go_simp; rfl)); intro gb148 hg w11 hbox hb; have n0_ := Aside0.mk (below_step (by repeat (first | (with_reducible first | exact HB.out | apply below_alloc | apply pw_below_drewN | apply below_drew1) | exact HB.out)) hb); have n1_ := Aside0.mk (hbox); have n2_ := Aside0.mk ((by rw [hg]; exact (below_size (by repeat (first | (with_reducible first | exact HB.out | apply below_alloc | apply pw_below_drewN | apply below_drew1) | exact HB.out))) : w.heap.size ≤ gb148)); have n3_ := Aside0.mk ((by rw [hg]; exact (below_size (by repeat (first | (with_reducible first | exact HB.out | apply below_alloc | apply pw_below_drewN | apply below_drew1) | exact HB.out))) : w.heap.size ≤ gb148)); clear HB; have HB := n0_; have BK148 := n1_; have GW148 := n2_; have GE148 := n3_; clear n0_ n1_ n2_ n3_; clear hb hbox hg) | ((with_reducible refine gate_callee (f := 41) rfl ?_); refine goesL_ (some 14) rfl rfl Tryz.func41 (by kernel_rfl) rfl #[.string a0, .int .i64 a1] rfl (by (try simp only [List.map_toArray, List.map_cons, List.map_nil]); first | done | rfl | (simp only [List.length_drop, List.length_take]; rfl)) ?_; (with_reducible refine (lex_Word.calls k a0 a1 t149 t150 _ A3.out).mono ?_); rintro e w12 ⟨rfl, hb⟩; refine ⟨_, rfl, ?_⟩; have n0_ := Aside0.mk (blk_below (g := gb148) (o := .cells #[.int .i64 0, .int .i64 0, .int .i64 0, .string (⟨#[]⟩ : ByteArray)] 40 (0, 0)) (by (with_reducible repeat (first | refine blk_drewN ?_ _ | refine blk_drew ?_ | refine blk_alloc ?_ _)); exact BK148.out) hb); have n1_ := Aside0.mk (below_step (by repeat (first | (with_reducible first | exact HB.out | apply below_alloc | apply pw_below_drewN | apply below_drew1 | refine below_set ?_ GE148.out) | exact HB.out)) hb); clear BK148; clear HB; have BK148 := n0_; have HB := n1_; clear n0_ n1_; (try clear hb); (try clear hb2); (try clear hk); (try clear hi)) | ((with_reducible refine gate_callee (f := 73) rfl ?_); refine goesL_ (some 19) rfl rfl Tryz.func73 (by kernel_rfl) rfl #[.string t149] rfl (by (try simp only [List.map_toArray, List.map_cons, List.map_nil]); first | done | rfl | (simp only [List.length_drop, List.length_take]; rfl)) ?_; (with_reducible refine (lex_Int.calls t149 t151 t152 _ ?side1 A4.out).mono ?_); (case side1 => exact GW.below (by repeat (first | (with_reducible first | exact HB.out | apply below_alloc | apply pw_below_drewN | apply below_drew1 | refine below_set ?_ GE148.out) | exact HB.out)) HG.out); rintro e w13 ⟨rfl, hb⟩; refine ⟨_, rfl, ?_⟩; have n0_ := Aside0.mk (blk_below (g := gb148) (o := .cells #[.int .i64 0, .int .i64 0, .int .i64 0, .string (⟨#[]⟩ : ByteArray)] 40 (0, 0)) (by (with_reducible repeat (first | refine blk_drewN ?_ _ | refine blk_drew ?_ | refine blk_alloc ?_ _)); exact BK148.out) hb); have n1_ := Aside0.mk (below_step (by repeat (first | (with_reducible first | exact HB.out | apply below_alloc | apply pw_below_drewN | apply below_drew1 | refine below_set ?_ GE148.out) | exact HB.out)) hb); clear BK148; clear HB; have BK148 := n0_; have HB := n1_; clear n0_ n1_; (try clear hb); (try clear hb2); (try clear hk); (try clear hi); have hcz14_0 : w13.cell? ⟨gb148, 0, none⟩ = some (.int .i64 0) := (blk_cell BK148.out 0).trans rfl; have hcz14_1 : w13.cell? ⟨gb148, 1, none⟩ = some (.int .i64 0) := (blk_cell BK148.out 1).trans rfl; have hcz14_2 : w13.cell? ⟨gb148, 2, none⟩ = some (.int .i64 0) := (blk_cell BK148.out 2).trans rfl; have hcz14_3 : w13.cell? ⟨gb148, 3, none⟩ = some (.string (⟨#[]⟩ : ByteArray)) := (blk_cell BK148.out 3).trans rfl; have hfz14_0 := blk_frozen BK148.out 0; have hfz14_1 := blk_frozen BK148.out 1; have hfz14_2 := blk_frozen BK148.out 2; have hfz14_3 := blk_frozen BK148.out 3))
   refine bodyPost_ret (results_ctt rfl _ _ gb148 40 #[.int .i64 3, .int .i64 a1, .int .i64 0, .string t149] (0, 0) _ rfl (by (with_reducible repeat (first | refine blk_drewN ?_ _ | refine blk_drew ?_ | refine blk_alloc ?_ _)); refine blk_put (cs := #[.int .i64 3, .int .i64 a1, .int .i64 0, .string (⟨#[]⟩ : ByteArray)]) ?_ 3 _ rfl; (with_reducible repeat (first | refine blk_drewN ?_ _ | refine blk_drew ?_ | refine blk_alloc ?_ _)); refine blk_put (cs := #[.int .i64 3, .int .i64 a1, .int .i64 0, .string (⟨#[]⟩ : ByteArray)]) ?_ 2 _ rfl; (with_reducible repeat (first | refine blk_drewN ?_ _ | refine blk_drew ?_ | refine blk_alloc ?_ _)); refine blk_put (cs := #[.int .i64 3, .int .i64 0, .int .i64 0, .string (⟨#[]⟩ : ByteArray)]) ?_ 1 _ rfl; (with_reducible repeat (first | refine blk_drewN ?_ _ | refine blk_drew ?_ | refine blk_alloc ?_ _)); refine blk_put (cs := #[.int .i64 0, .int .i64 0, .int .i64 0, .string (⟨#[]⟩ : ByteArray)]) ?_ 0 _ rfl; (with_reducible repeat (first | refine blk_drewN ?_ _ | refine blk_drew ?_ | refine blk_alloc ?_ _)); exact BK148.out) Tryz.underlying40 rfl (by kernel_rfl)) rfl ?_
   exact ⟨by first | rfl | (simp [errW_none, errW_some] <;> rfl) | (simp [*, errW_none, errW_some] <;> rfl), by repeat (first | (with_reducible first | exact HB.out | apply below_alloc | apply pw_below_drewN | apply below_drew1 | refine below_set ?_ GE148.out) | exact HB.out)⟩
  ·rw [if_neg c10] at H
   have c10b0 : (t152 == 3) = false := beq_eq_false_iff_ne.mpr c10
   have c10b1 : (t152 != 3) = true := bne_iff_ne.mpr c10
   simp only [Option.some.injEq, Prod.mk.injEq] at H
   obtain ⟨rfl, rfl, rfl, rfl, rfl, rfl⟩ := H
   go_enter Tryz.func45, Tryz.ntmps45
   go_wp2_with (first | ((with_reducible refine gate_dst (N := 4) rfl ?_); refine box_event ?hg (N := 4) ?hd (cs := #[.int .i64 0, .int .i64 0, .int .i64 0, .string (⟨#[]⟩ : ByteArray)]) (t := 40) ?hr ?_; (case hd => rfl); (case hg => rfl); (case hr => first | (go_simp; done) | (go_simp; rfl)); intro gb148 hg w15 hbox hb; have n0_ := Aside0.mk (below_step (by repeat (first | (with_reducible first | exact HB.out | apply below_alloc | apply pw_below_drewN | apply below_drew1) | exact HB.out)) hb); have n1_ := Aside0.mk (hbox); have n2_ := Aside0.mk ((by rw [hg]; exact (below_size (by repeat (first | (with_reducible first | exact HB.out | apply below_alloc | apply pw_below_drewN | apply below_drew1) | exact HB.out))) : w.heap.size ≤ gb148)); have n3_ := Aside0.mk ((by rw [hg]; exact (below_size (by repeat (first | (with_reducible first | exact HB.out | apply below_alloc | apply pw_below_drewN | apply below_drew1) | exact HB.out))) : w.heap.size ≤ gb148)); clear HB; have HB := n0_; have BK148 := n1_; have GW148 := n2_; have GE148 := n3_; clear n0_ n1_ n2_ n3_; clear hb hbox hg) | ((with_reducible refine gate_callee (f := 41) rfl ?_); refine goesL_ (some 14) rfl rfl Tryz.func41 (by kernel_rfl) rfl #[.string a0, .int .i64 a1] rfl (by (try simp only [List.map_toArray, List.map_cons, List.map_nil]); first | done | rfl | (simp only [List.length_drop, List.length_take]; rfl)) ?_; (with_reducible refine (lex_Word.calls k a0 a1 t149 t150 _ A3.out).mono ?_); rintro e w16 ⟨rfl, hb⟩; refine ⟨_, rfl, ?_⟩; have n0_ := Aside0.mk (blk_below (g := gb148) (o := .cells #[.int .i64 0, .int .i64 0, .int .i64 0, .string (⟨#[]⟩ : ByteArray)] 40 (0, 0)) (by (with_reducible repeat (first | refine blk_drewN ?_ _ | refine blk_drew ?_ | refine blk_alloc ?_ _)); exact BK148.out) hb); have n1_ := Aside0.mk (below_step (by repeat (first | (with_reducible first | exact HB.out | apply below_alloc | apply pw_below_drewN | apply below_drew1 | refine below_set ?_ GE148.out) | exact HB.out)) hb); clear BK148; clear HB; have BK148 := n0_; have HB := n1_; clear n0_ n1_; (try clear hb); (try clear hb2); (try clear hk); (try clear hi)) | ((with_reducible refine gate_callee (f := 73) rfl ?_); refine goesL_ (some 19) rfl rfl Tryz.func73 (by kernel_rfl) rfl #[.string t149] rfl (by (try simp only [List.map_toArray, List.map_cons, List.map_nil]); first | done | rfl | (simp only [List.length_drop, List.length_take]; rfl)) ?_; (with_reducible refine (lex_Int.calls t149 t151 t152 _ ?side1 A4.out).mono ?_); (case side1 => exact GW.below (by repeat (first | (with_reducible first | exact HB.out | apply below_alloc | apply pw_below_drewN | apply below_drew1 | refine below_set ?_ GE148.out) | exact HB.out)) HG.out); rintro e w17 ⟨rfl, hb⟩; refine ⟨_, rfl, ?_⟩; have n0_ := Aside0.mk (blk_below (g := gb148) (o := .cells #[.int .i64 0, .int .i64 0, .int .i64 0, .string (⟨#[]⟩ : ByteArray)] 40 (0, 0)) (by (with_reducible repeat (first | refine blk_drewN ?_ _ | refine blk_drew ?_ | refine blk_alloc ?_ _)); exact BK148.out) hb); have n1_ := Aside0.mk (below_step (by repeat (first | (with_reducible first | exact HB.out | apply below_alloc | apply pw_below_drewN | apply below_drew1 | refine below_set ?_ GE148.out) | exact HB.out)) hb); clear BK148; clear HB; have BK148 := n0_; have HB := n1_; clear n0_ n1_; (try clear hb); (try clear hb2); (try clear hk); (try clear hi); have hcz18_0 : w17.cell? ⟨gb148, 0, none⟩ = some (.int .i64 0) := (blk_cell BK148.out 0).trans rfl; have hcz18_1 : w17.cell? ⟨gb148, 1, none⟩ = some (.int .i64 0) := (blk_cell BK148.out 1).trans rfl; have hcz18_2 : w17.cell? ⟨gb148, 2, none⟩ = some (.int .i64 0) := (blk_cell BK148.out 2).trans rfl; have hcz18_3 : w17.cell? ⟨gb148, 3, none⟩ = some (.string (⟨#[]⟩ : ByteArray)) := (blk_cell BK148.out 3).trans rfl; have hfz18_0 := blk_frozen BK148.out 0; have hfz18_1 := blk_frozen BK148.out 1; have hfz18_2 := blk_frozen BK148.out 2; have hfz18_3 := blk_frozen BK148.out 3))
   refine bodyPost_ret (results_ctt rfl _ _ gb148 40 #[.int .i64 0, .int .i64 0, .int .i64 0, .string (⟨#[]⟩ : ByteArray)] (0, 0) _ rfl (by (with_reducible repeat (first | refine blk_drewN ?_ _ | refine blk_drew ?_ | refine blk_alloc ?_ _)); refine blk_put (cs := #[.int .i64 0, .int .i64 0, .int .i64 0, .string (⟨#[]⟩ : ByteArray)]) ?_ 3 _ rfl; (with_reducible repeat (first | refine blk_drewN ?_ _ | refine blk_drew ?_ | refine blk_alloc ?_ _)); refine blk_put (cs := #[.int .i64 0, .int .i64 0, .int .i64 0, .string (⟨#[]⟩ : ByteArray)]) ?_ 2 _ rfl; (with_reducible repeat (first | refine blk_drewN ?_ _ | refine blk_drew ?_ | refine blk_alloc ?_ _)); refine blk_put (cs := #[.int .i64 0, .int .i64 0, .int .i64 0, .string (⟨#[]⟩ : ByteArray)]) ?_ 1 _ rfl; (with_reducible repeat (first | refine blk_drewN ?_ _ | refine blk_drew ?_ | refine blk_alloc ?_ _)); refine blk_put (cs := #[.int .i64 0, .int .i64 0, .int .i64 0, .string (⟨#[]⟩ : ByteArray)]) ?_ 0 _ rfl; (with_reducible repeat (first | refine blk_drewN ?_ _ | refine blk_drew ?_ | refine blk_alloc ?_ _)); exact BK148.out) Tryz.underlying40 rfl (by kernel_rfl)) rfl ?_
   exact ⟨by first | rfl | (simp [errW_none, errW_some] <;> rfl) | (simp [*, errW_none, errW_some] <;> rfl), by repeat (first | (with_reducible first | exact HB.out | apply below_alloc | apply pw_below_drewN | apply below_drew1 | refine below_set ?_ GE148.out) | exact HB.out)⟩
def tok_Next.j0 : Nat → ByteArray → Int → ByteArray → Int → Bool → Option (Int × Int × Int × ByteArray × Int × Int)
 | 0, _, _, _, _, _ => none
 | k + 1, x0, x7, x8, x37, x38 => if x38 = true then (some (0, 0, 0, (⟨#[]⟩ : ByteArray), x7, 3)) else (if x37 = 47 then ((lex_Word.f k x0 (wrap64 (x7 + 1))).bind fun bt162 => ((lex_Name.f bt162.1).bind fun t164 => (some (2, x7, 0, t164, bt162.2, 0)))) else (if x37 = 60 then ((tok_source_hexed.f k x8 x7).bind fun bt165 => (some (bt165.1, bt165.2.1, bt165.2.2.1, bt165.2.2.2.1, bt165.2.2.2.2.1, bt165.2.2.2.2.2))) else (if x37 = 40 then ((tok_source_strung.f k x8 x7).bind fun bt171 => (some (bt171.1, bt171.2.1, bt171.2.2.1, bt171.2.2.2.1, bt171.2.2.2.2.1, bt171.2.2.2.2.2))) else ((tok_source_worded.f k x8 x7).bind fun bt177 => (some (bt177.1, bt177.2.1, bt177.2.2.1, bt177.2.2.2.1, bt177.2.2.2.2.1, bt177.2.2.2.2.2))))))
def tok_Next.f (k : Nat) (a0 : ByteArray) (a1 : Int) : Option (Int × Int × Int × ByteArray × Int × Int) := (lex_Skip.f k a0 a1).bind fun t154 => (if t154 = (a0.size : Int) then (some (0, t154, 0, (⟨#[]⟩ : ByteArray), t154, 0)) else ((tok_source_sign.f a0 t154).bind fun bt155 => (if bt155.2.2.2.2.2 = true then (some (bt155.1, bt155.2.1, bt155.2.2.1, bt155.2.2.2.1, bt155.2.2.2.2.1, 0)) else (if 0 ≤ t154 then (if t154 < (a0.size : Int) then (if (bt a0 t154) = 41 then (tok_Next.j0 k a0 t154 a0 (bt a0 t154) ((bt a0 t154) == 41)) else (tok_Next.j0 k a0 t154 a0 (bt a0 t154) ((bt a0 t154) == 62))) else (none)) else (none)))))
theorem tok_Next.mono_l : ∀ k, (∀ y0 y1 y2 y3 y4, LeO (tok_Next.j0 k y0 y1 y2 y3 y4) (tok_Next.j0 (k + 1) y0 y1 y2 y3 y4))
 | 0 => fun _ _ _ _ _ r h => by simp [tok_Next.j0] at h
 | k + 1 => by
  have ih0 := tok_Next.mono_l k
  ·intro y0 y1 y2 y3 y4
   unfold tok_Next.j0
   repeat' first
   | (with_reducible exact ih0 _ _ _ _ _)
   | (with_reducible exact lex_Skip.mono _ _ _)
   | (with_reducible exact lex_Word.mono _ _ _)
   | (with_reducible exact tok_source_hexed.mono _ _ _)
   | (with_reducible exact tok_source_strung.mono _ _ _)
   | (with_reducible exact tok_source_worded.mono _ _ _)
   | (with_reducible exact LeO.refl _)
   | (with_reducible exact LeO.none _)
   | (with_reducible refine LeO.ite ?_ ?_)
   | (with_reducible refine LeO.bind ?_ (fun _ => ?_))
   | exact ih0 _ _ _ _ _
   | exact lex_Skip.mono _ _ _
   | exact lex_Word.mono _ _ _
   | exact tok_source_hexed.mono _ _ _
   | exact tok_source_strung.mono _ _ _
   | exact tok_source_worded.mono _ _ _
   | exact LeO.none _
   | refine LeO.ite ?_ ?_
   | refine LeO.bind ?_ (fun _ => ?_)
theorem tok_Next.mono : ∀ a0 a1 k, LeO (tok_Next.f k a0 a1) (tok_Next.f (k + 1) a0 a1) := by
 intro a0 a1 k
 have ih0 := tok_Next.mono_l k
 unfold tok_Next.f
 repeat' first
   | (with_reducible exact ih0 _ _ _ _ _)
   | (with_reducible exact lex_Skip.mono _ _ _)
   | (with_reducible exact lex_Word.mono _ _ _)
   | (with_reducible exact tok_source_hexed.mono _ _ _)
   | (with_reducible exact tok_source_strung.mono _ _ _)
   | (with_reducible exact tok_source_worded.mono _ _ _)
   | (with_reducible exact LeO.refl _)
   | (with_reducible exact LeO.none _)
   | (with_reducible refine LeO.ite ?_ ?_)
   | (with_reducible refine LeO.bind ?_ (fun _ => ?_))
   | exact ih0 _ _ _ _ _
   | exact lex_Skip.mono _ _ _
   | exact lex_Word.mono _ _ _
   | exact tok_source_hexed.mono _ _ _
   | exact tok_source_strung.mono _ _ _
   | exact tok_source_worded.mono _ _ _
   | exact LeO.none _
   | refine LeO.ite ?_ ?_
   | refine LeO.bind ?_ (fun _ => ?_)
set_option maxHeartbeats 8000000 in
set_option maxRecDepth 100000 in
theorem tok_Next.calls (k : Nat) (a0 : ByteArray) (a1 : Int) (r1 : Int) (r2 : Int) (r3 : Int) (r4 : ByteArray) (r5 : Int) (r6 : Int) (w : World) (hG : GW w) (h : tok_Next.f k a0 a1 = some (r1, r2, r3, r4, r5, r6)) :
  Calls Tryz.prog 27 #[.string a0, .int .i64 a1] w fun e w' => e = .returned (.tuple #[.agg #[.int .i64 r1, .int .i64 r2, .int .i64 r3, .string r4], .int .i64 r5, .int .i64 r6]) ∧ Below w.heap.size w w' := by
 have hu40 := Tryz.underlying40
 have HG := aM hG
 clear hG
 have HB := aM (Below.refl w.heap.size w)
 have H : ((lex_Skip.f k a0 a1).bind fun t154 => (if t154 = (a0.size : Int) then (some (0, t154, 0, (⟨#[]⟩ : ByteArray), t154, 0)) else ((tok_source_sign.f a0 t154).bind fun bt155 => (if bt155.2.2.2.2.2 = true then (some (bt155.1, bt155.2.1, bt155.2.2.1, bt155.2.2.2.1, bt155.2.2.2.2.1, 0)) else (if 0 ≤ t154 then (if t154 < (a0.size : Int) then (if (bt a0 t154) = 41 then (tok_Next.j0 k a0 t154 a0 (bt a0 t154) ((bt a0 t154) == 41)) else (tok_Next.j0 k a0 t154 a0 (bt a0 t154) ((bt a0 t154) == 62))) else (none)) else (none)))))) = some (r1, r2, r3, r4, r5, r6) := h
 clear h
 replace H := bS H
 obtain ⟨t154, A3, H⟩ := H
 try dsimp only at H
 refine iEc H ?_ ?_<;>clear H<;>intro H c4b0 c4b1 c4
 ·clear c4
  simp only [Option.some.injEq, Prod.mk.injEq] at H
  obtain ⟨rfl, rfl, rfl, rfl, rfl, rfl⟩ := H
  go_enter Tryz.func27, Tryz.ntmps27
  go_wp2_with (first | ((with_reducible refine gD 4 ?_); refine bE 4 (cs := #[.int .i64 0, .int .i64 0, .int .i64 0, .string (⟨#[]⟩ : ByteArray)]) (t := 40) ?_; intro gb153 hg w5 hbox hb; have BK153 := aM hbox; have GW153 := sG w hg; have GE153 := sG w hg; replace HB := sB hb; clear hb hbox hg) | ((with_reducible refine gC 39 ?_); refine gL (some 16) Tryz.func39 #[.string a0, .int .i64 a1] ?_; (with_reducible refine cB (lex_Skip.calls k a0 a1 t154 _ A3.out) ?_); intro w6 hb; replace BK153 := kK BK153 hb; replace HB := sB hb; clear hb; obtain ⟨hcz7_0, hcz7_1, hcz7_2, hcz7_3, hfz7_0, hfz7_1, hfz7_2, hfz7_3⟩ := b4 BK153))
  refine bodyPost_ret (results_ctt rfl _ _ gb153 40 #[.int .i64 0, .int .i64 t154, .int .i64 0, .string (⟨#[]⟩ : ByteArray)] (0, 0) _ rfl kQ Tryz.underlying40 rfl (by kernel_rfl)) rfl ?_
  exact ⟨eQ, bQ⟩
 replace H := bS H
 obtain ⟨⟨t155, t156, t157, t158, t159, t160⟩, A8, H⟩ := H
 try dsimp only at H
 by_cases c9 : t160 = true
 ·subst c9
  rw [if_pos rfl] at H
  simp only [Option.some.injEq, Prod.mk.injEq] at H
  obtain ⟨rfl, rfl, rfl, rfl, rfl, rfl⟩ := H
  go_enter Tryz.func27, Tryz.ntmps27
  go_wp2_with (first | ((with_reducible refine gD 4 ?_); refine bE 4 (cs := #[.int .i64 0, .int .i64 0, .int .i64 0, .string (⟨#[]⟩ : ByteArray)]) (t := 40) ?_; intro gb153 hg w10 hbox hb; have BK153 := aM hbox; have GW153 := sG w hg; have GE153 := sG w hg; replace HB := sB hb; clear hb hbox hg) | ((with_reducible refine gC 39 ?_); refine gL (some 16) Tryz.func39 #[.string a0, .int .i64 a1] ?_; (with_reducible refine cB (lex_Skip.calls k a0 a1 t154 _ A3.out) ?_); intro w11 hb; replace BK153 := kK BK153 hb; replace HB := sB hb; clear hb) | ((with_reducible refine gC 40 ?_); refine gL (some 28) Tryz.func40 #[.string a0, .int .i64 t154] ?_; (with_reducible refine cB (tok_source_sign.calls a0 t154 t155 t156 t157 t158 t159 true _ A8.out) ?_); intro w12 hb; replace BK153 := kK BK153 hb; replace HB := sB hb; clear hb) | ((with_reducible refine gD 9 ?_); refine bE 9 (cs := #[.int .i64 0, .int .i64 0, .int .i64 0, .string (⟨#[]⟩ : ByteArray)]) (t := 40) ?_; intro gb161 hg w13 hbox hb; have BK161 := aM hbox; have GW161 := sG w hg; have GE161 := sG w hg; replace HB := sB hb; have NB153_161 := aM ((by rw [hg]; exact Nat.ne_of_lt (blk_lt (g := gb153) (o := .cells #[.int .i64 0, .int .i64 0, .int .i64 0, .string (⟨#[]⟩ : ByteArray)] 40 (0, 0)) kQ) : gb153 ≠ gb161)); have NB161_153 := aM ((by rw [hg]; exact Nat.ne_of_gt (blk_lt (g := gb153) (o := .cells #[.int .i64 0, .int .i64 0, .int .i64 0, .string (⟨#[]⟩ : ByteArray)] 40 (0, 0)) kQ) : gb161 ≠ gb153)); replace BK153 := kK BK153 hb; clear hb hbox hg; have hnb14 := NB161_153.out; have hnc14 := NB153_161.out; obtain ⟨hcz15_0, hcz15_1, hcz15_2, hcz15_3, hfz15_0, hfz15_1, hfz15_2, hfz15_3⟩ := b4 BK161; obtain ⟨hcz16_0, hcz16_1, hcz16_2, hcz16_3, hfz16_0, hfz16_1, hfz16_2, hfz16_3⟩ := b4 BK153))
  refine bodyPost_ret (results_ctt rfl _ _ gb153 40 #[.int .i64 t155, .int .i64 t156, .int .i64 t157, .string t158] (0, 0) _ rfl kQ Tryz.underlying40 rfl (by kernel_rfl)) rfl ?_
  exact ⟨eQ, bQ⟩
 replace c9 := Bool.eq_false_iff.mpr c9
 subst c9
 rw [if_neg (show ¬ (false = true) by decide)] at H
 refine iD H ?_ ?_<;>clear H<;>intro H c17b0
 rotate_left
 ·exact absurd H (by simp)
 refine iD H ?_ ?_<;>clear H<;>intro H c18b0
 rotate_left
 ·exact absurd H (by simp)
 have HC20 := aM H
 clear H
 go_enter Tryz.func27, Tryz.ntmps27
 go_upto_if 38 with (first | ((with_reducible refine gD 4 ?_); refine bE 4 (cs := #[.int .i64 0, .int .i64 0, .int .i64 0, .string (⟨#[]⟩ : ByteArray)]) (t := 40) ?_; intro gb153 hg w21 hbox hb; have BK153 := aM hbox; have GW153 := sG w hg; have GE153 := sG w hg; replace HB := sB hb; clear hb hbox hg) | ((with_reducible refine gC 39 ?_); refine gL (some 16) Tryz.func39 #[.string a0, .int .i64 a1] ?_; (with_reducible refine cB (lex_Skip.calls k a0 a1 t154 _ A3.out) ?_); intro w22 hb; replace BK153 := kK BK153 hb; replace HB := sB hb; clear hb) | ((with_reducible refine gC 40 ?_); refine gL (some 28) Tryz.func40 #[.string a0, .int .i64 t154] ?_; (with_reducible refine cB (tok_source_sign.calls a0 t154 t155 t156 t157 t158 t159 false _ A8.out) ?_); intro w23 hb; replace BK153 := kK BK153 hb; replace HB := sB hb; clear hb) | ((with_reducible refine gD 9 ?_); refine bE 9 (cs := #[.int .i64 0, .int .i64 0, .int .i64 0, .string (⟨#[]⟩ : ByteArray)]) (t := 40) ?_; intro gb161 hg w24 hbox hb; have BK161 := aM hbox; have GW161 := sG w hg; have GE161 := sG w hg; replace HB := sB hb; have NB153_161 := aM ((by rw [hg]; exact Nat.ne_of_lt (blk_lt (g := gb153) (o := .cells #[.int .i64 0, .int .i64 0, .int .i64 0, .string (⟨#[]⟩ : ByteArray)] 40 (0, 0)) kQ) : gb153 ≠ gb161)); have NB161_153 := aM ((by rw [hg]; exact Nat.ne_of_gt (blk_lt (g := gb153) (o := .cells #[.int .i64 0, .int .i64 0, .int .i64 0, .string (⟨#[]⟩ : ByteArray)] 40 (0, 0)) kQ) : gb161 ≠ gb153)); replace BK153 := kK BK153 hb; clear hb hbox hg; have hnb25 := NB161_153.out; have hnc25 := NB153_161.out; obtain ⟨hcz26_0, hcz26_1, hcz26_2, hcz26_3, hfz26_0, hfz26_1, hfz26_2, hfz26_3⟩ := b4 BK161; have p19 : 0 ≤ (t154 : Int) := of_decide_eq_true hQ; have q19 : t154 < (a0.size : Int) := of_decide_eq_true hQ; have hx19 := bt_at a0 t154; replace p19 := eq_true p19; replace q19 := eq_true q19))
 (try simp only [Act.put, List.setIfInBounds_toArray, List.set_cons_zero, List.set_cons_succ])
 go_cut [38] (fun v38 wc => ∃ (kq : Nat) (x38_19 : Bool), v38 = .bool x38_19 ∧ Aside0 (tok_Next.j0 kq a0 t154 a0 (bt a0 t154) x38_19 = some (r1, r2, r3, r4, r5, r6)) ∧ Aside0 (kq ≤ k) ∧ Aside0 (wc.heap[gb153]? = some (.cells #[.int .i64 0, .int .i64 0, .int .i64 0, .string (⟨#[]⟩ : ByteArray)] 40 (0, 0))) ∧ Aside0 (wc.heap[gb161]? = some (.cells #[.int .i64 t155, .int .i64 t156, .int .i64 t157, .string t158] 40 (0, 0))) ∧ Aside0 (Below w.heap.size w wc))
 case first =>
  have H := HC20.out
  clear HC20
  refine iEc H ?_ ?_<;>clear H<;>intro H c27b0 c27b1 c27
  rotate_left
  ·(first | rw [c27b0] | (simp only [i64_w, i32_w]; rw [c27b0]) | skip)
   have H' := aM H
   clear H
   go_wp2
   go_meet
   case rel => exact ⟨_, (((bt a0 t154) == 62)), vQ, H', ⟨by first | omega | exact Nat.le_refl _⟩, ⟨kQ⟩, ⟨kQ⟩, ⟨bQ⟩⟩
  clear c27
  (first | rw [c27b0] | (simp only [i64_w, i32_w]; rw [c27b0]) | skip)
  have H' := aM H
  clear H
  go_wp2
  go_meet
  case rel => exact ⟨_, (((bt a0 t154) == 41)), vQ, H', ⟨by first | omega | exact Nat.le_refl _⟩, ⟨kQ⟩, ⟨kQ⟩, ⟨bQ⟩⟩
 case rest =>
  clear HC20
  try clear c1
  try clear p1
  try clear q1
  try clear hx1
  try clear c2
  try clear p2
  try clear c3
  try clear c4
  try clear c4b0
  try clear c4b1
  try clear c9
  try clear c14
  try clear c17
  try clear c17b0
  try clear c18
  try clear c18b0
  try clear p19
  try clear q19
  try clear hx19
  try clear c25
  try clear c27
  try clear c27b0
  try clear c27b1
  try clear hcz15_0
  try clear hcz15_1
  try clear hcz15_2
  try clear hcz15_3
  try clear hcz16_0
  try clear hcz16_1
  try clear hcz16_2
  try clear hcz16_3
  try clear hcz26_0
  try clear hcz26_1
  try clear hcz26_2
  try clear hcz26_3
  try clear hcz7_0
  try clear hcz7_1
  try clear hcz7_2
  try clear hcz7_3
  try clear hfz15_0
  try clear hfz15_1
  try clear hfz15_2
  try clear hfz15_3
  try clear hfz16_0
  try clear hfz16_1
  try clear hfz16_2
  try clear hfz16_3
  try clear hfz26_0
  try clear hfz26_1
  try clear hfz26_2
  try clear hfz26_3
  try clear hfz7_0
  try clear hfz7_1
  try clear hfz7_2
  try clear hfz7_3
  try clear p19
  try clear q19
  obtain ⟨kq, x38_19, rfl, HA, HJ19, BK153, BK161, HB⟩ := hcut
  cases kq with
  | zero => exact absurd HA.out (by simp [tok_Next.j0])
  | succ kj19 =>
   have H := HA.out
   clear HA
   simp only [tok_Next.j0] at H
   by_cases c28 : x38_19 = true
   ·subst c28
    rw [if_pos rfl] at H
    simp only [Option.some.injEq, Prod.mk.injEq] at H
    obtain ⟨rfl, rfl, rfl, rfl, rfl, rfl⟩ := H
    have hnb29 := NB153_161.out
    have hnc29 := NB161_153.out
    have hcz30_0 : wc.cell? ⟨gb153, 0, none⟩ = some (.int .i64 0) := (blk_cell BK153.out 0).trans rfl
    have hcz30_1 : wc.cell? ⟨gb153, 1, none⟩ = some (.int .i64 0) := (blk_cell BK153.out 1).trans rfl
    have hcz30_2 : wc.cell? ⟨gb153, 2, none⟩ = some (.int .i64 0) := (blk_cell BK153.out 2).trans rfl
    have hcz30_3 : wc.cell? ⟨gb153, 3, none⟩ = some (.string (⟨#[]⟩ : ByteArray)) := (blk_cell BK153.out 3).trans rfl
    have hfz30_0 := blk_frozen BK153.out 0
    have hfz30_1 := blk_frozen BK153.out 1
    have hfz30_2 := blk_frozen BK153.out 2
    have hfz30_3 := blk_frozen BK153.out 3
    go_wp2
    refine bodyPost_ret (results_ctt rfl _ _ gb153 40 #[.int .i64 0, .int .i64 0, .int .i64 0, .string (⟨#[]⟩ : ByteArray)] (0, 0) _ rfl kQ Tryz.underlying40 rfl (by kernel_rfl)) rfl ?_
    exact ⟨eQ, bQ⟩
   replace c28 := Bool.eq_false_iff.mpr c28
   subst c28
   rw [if_neg (show ¬ (false = true) by decide)] at H
   refine iEc H ?_ ?_<;>clear H<;>intro H c31b0 c31b1 c31
   ·clear c31
    replace H := bS H
    obtain ⟨⟨t162, t163⟩, A32, H⟩ := H
    try dsimp only at H
    replace H := bS H
    obtain ⟨t164, A33, H⟩ := H
    try dsimp only at H
    simp only [Option.some.injEq, Prod.mk.injEq] at H
    obtain ⟨rfl, rfl, rfl, rfl, rfl, rfl⟩ := H
    go_wp2_with (first | ((with_reducible refine gC 41 ?_); refine gL (some 49) Tryz.func41 #[.string a0, .int .i64 (wrap64 (t154 + 1))] ?_; (with_reducible refine cB (lex_Word.calls kj19 a0 (wrap64 (t154 + 1)) t162 t163 _ A32.out) ?_); intro w34 hb; replace BK153 := kK BK153 hb; replace BK161 := kK BK161 hb; replace HB := sB hb; clear hb) | ((with_reducible refine gC 42 ?_); refine gL (some 54) Tryz.func42 #[.string t162] ?_; (with_reducible refine cB (lex_Name.calls t162 t164 _ A33.out) ?_); intro w35 hb; replace BK153 := kK BK153 hb; replace BK161 := kK BK161 hb; replace HB := sB hb; clear hb; have hnb36 := NB153_161.out; have hnc36 := NB161_153.out; obtain ⟨hcz37_0, hcz37_1, hcz37_2, hcz37_3, hfz37_0, hfz37_1, hfz37_2, hfz37_3⟩ := b4 BK153))
    refine bodyPost_ret (results_ctt rfl _ _ gb153 40 #[.int .i64 2, .int .i64 t154, .int .i64 0, .string t164] (0, 0) _ rfl kQ Tryz.underlying40 rfl (by kernel_rfl)) rfl ?_
    exact ⟨eQ, bQ⟩
   refine iEc H ?_ ?_<;>clear H<;>intro H c38b0 c38b1 c38
   ·clear c38
    replace H := bS H
    obtain ⟨⟨t165, t166, t167, t168, t169, t170⟩, A39, H⟩ := H
    try dsimp only at H
    simp only [Option.some.injEq, Prod.mk.injEq] at H
    obtain ⟨rfl, rfl, rfl, rfl, rfl, rfl⟩ := H
    go_wp2_with (first | ((with_reducible refine gC 43 ?_); refine gL (some 61) Tryz.func43 #[.string a0, .int .i64 t154] ?_; (with_reducible refine cB (tok_source_hexed.calls kj19 a0 t154 t165 t166 t167 t168 t169 t170 _ ?side1 A39.out) ?_); (case side1 => exact gQ HG.out); intro w40 hb; replace BK153 := kK BK153 hb; replace BK161 := kK BK161 hb; replace HB := sB hb; clear hb; have hnb41 := NB153_161.out; have hnc41 := NB161_153.out; obtain ⟨hcz42_0, hcz42_1, hcz42_2, hcz42_3, hfz42_0, hfz42_1, hfz42_2, hfz42_3⟩ := b4 BK153))
    refine bodyPost_ret (results_ctt rfl _ _ gb153 40 #[.int .i64 t165, .int .i64 t166, .int .i64 t167, .string t168] (0, 0) _ rfl kQ Tryz.underlying40 rfl (by kernel_rfl)) rfl ?_
    exact ⟨eQ, bQ⟩
   refine iEc H ?_ ?_<;>clear H<;>intro H c43b0 c43b1 c43
   rotate_left
   ·replace H := bS H
    obtain ⟨⟨t177, t178, t179, t180, t181, t182⟩, A48, H⟩ := H
    try dsimp only at H
    simp only [Option.some.injEq, Prod.mk.injEq] at H
    obtain ⟨rfl, rfl, rfl, rfl, rfl, rfl⟩ := H
    go_wp2_with (first | ((with_reducible refine gC 45 ?_); refine gL (some 75) Tryz.func45 #[.string a0, .int .i64 t154] ?_; (with_reducible refine cB (tok_source_worded.calls kj19 a0 t154 t177 t178 t179 t180 t181 t182 _ ?side1 A48.out) ?_); (case side1 => exact gQ HG.out); intro w49 hb; replace BK153 := kK BK153 hb; replace BK161 := kK BK161 hb; replace HB := sB hb; clear hb; have hnb50 := NB153_161.out; have hnc50 := NB161_153.out; obtain ⟨hcz51_0, hcz51_1, hcz51_2, hcz51_3, hfz51_0, hfz51_1, hfz51_2, hfz51_3⟩ := b4 BK153))
    refine bodyPost_ret (results_ctt rfl _ _ gb153 40 #[.int .i64 t177, .int .i64 t178, .int .i64 t179, .string t180] (0, 0) _ rfl kQ Tryz.underlying40 rfl (by kernel_rfl)) rfl ?_
    exact ⟨eQ, bQ⟩
   clear c43
   replace H := bS H
   obtain ⟨⟨t171, t172, t173, t174, t175, t176⟩, A44, H⟩ := H
   try dsimp only at H
   simp only [Option.some.injEq, Prod.mk.injEq] at H
   obtain ⟨rfl, rfl, rfl, rfl, rfl, rfl⟩ := H
   go_wp2_with (first | ((with_reducible refine gC 44 ?_); refine gL (some 69) Tryz.func44 #[.string a0, .int .i64 t154] ?_; (with_reducible refine cB (tok_source_strung.calls kj19 a0 t154 t171 t172 t173 t174 t175 t176 _ A44.out) ?_); intro w45 hb; replace BK153 := kK BK153 hb; replace BK161 := kK BK161 hb; replace HB := sB hb; clear hb; have hnb46 := NB153_161.out; have hnc46 := NB161_153.out; obtain ⟨hcz47_0, hcz47_1, hcz47_2, hcz47_3, hfz47_0, hfz47_1, hfz47_2, hfz47_3⟩ := b4 BK153))
   refine bodyPost_ret (results_ctt rfl _ _ gb153 40 #[.int .i64 t171, .int .i64 t172, .int .i64 t173, .string t174] (0, 0) _ rfl kQ Tryz.underlying40 rfl (by kernel_rfl)) rfl ?_
   exact ⟨eQ, bQ⟩
def tok_All.l0 : Nat → ByteArray → List (S40) → Int → Option ((List (S40)) × Int × Int)
 | 0, _, _, _ => none
 | k + 1, x0, x5, x6 => (tok_Next.f k x0 x6).bind fun bt183 => (if bt183.2.2.2.2.2 = 0 then (if bt183.1 = 0 then (some (x5, (x0.size : Int), 0)) else (if (x5.length : Int) = 65536 then (some (([] : List (S40)), bt183.2.1, 10)) else (if x5.length < 3518437208883 then (tok_All.l0 k x0 (x5 ++ [(⟨bt183.1, bt183.2.1, bt183.2.2.1, bt183.2.2.2.1⟩ : S40)]) bt183.2.2.2.2.1) else (none)))) else (some (([] : List (S40)), bt183.2.2.2.2.1, bt183.2.2.2.2.2)))
def tok_All.f (k : Nat) (a0 : ByteArray) : Option ((List (S40)) × Int × Int) := tok_All.l0 k a0 ([] : List (S40)) 0
theorem tok_All.mono_l : ∀ k, (∀ y0 y1 y2, LeO (tok_All.l0 k y0 y1 y2) (tok_All.l0 (k + 1) y0 y1 y2))
 | 0 => fun _ _ _ r h => by simp [tok_All.l0] at h
 | k + 1 => by
  have ih0 := tok_All.mono_l k
  ·intro y0 y1 y2
   unfold tok_All.l0
   repeat' first
   | (with_reducible exact ih0 _ _ _)
   | (with_reducible exact tok_Next.mono _ _ _)
   | (with_reducible exact LeO.refl _)
   | (with_reducible exact LeO.none _)
   | (with_reducible refine LeO.ite ?_ ?_)
   | (with_reducible refine LeO.bind ?_ (fun _ => ?_))
   | exact ih0 _ _ _
   | exact tok_Next.mono _ _ _
   | exact LeO.none _
   | refine LeO.ite ?_ ?_
   | refine LeO.bind ?_ (fun _ => ?_)
theorem tok_All.mono : ∀ a0 k, LeO (tok_All.f k a0) (tok_All.f (k + 1) a0) := by
 intro a0 k
 have ih0 := tok_All.mono_l k
 unfold tok_All.f
 repeat' first
   | (with_reducible exact ih0 _ _ _)
   | (with_reducible exact tok_Next.mono _ _ _)
   | (with_reducible exact LeO.refl _)
   | (with_reducible exact LeO.none _)
   | (with_reducible refine LeO.ite ?_ ?_)
   | (with_reducible refine LeO.bind ?_ (fun _ => ?_))
   | exact ih0 _ _ _
   | exact tok_Next.mono _ _ _
   | exact LeO.none _
   | refine LeO.ite ?_ ?_
   | refine LeO.bind ?_ (fun _ => ?_)
set_option maxHeartbeats 8000000 in
set_option maxRecDepth 100000 in
theorem tok_All.calls (k : Nat) (a0 : ByteArray) (r1 : List (S40)) (r2 : Int) (r3 : Int) (w : World) (hG : GW w) (h : tok_All.f k a0 = some (r1, r2, r3)) :
  Calls Tryz.prog 16 #[.string a0] w fun e w' => ∃ v0_ : Value, e = .returned (.tuple #[v0_, .int .i64 r2, .int .i64 r3]) ∧ Kd.R k40 40 w' w.heap.size (fun _ => True) v0_ r1 ∧ Below w.heap.size w w' := by
 have hu40 := Tryz.underlying40
 have HG := aM hG
 clear hG
 have HB := aM (Below.refl w.heap.size w)
 have H : (tok_All.l0 k a0 ([] : List (S40)) 0) = some (r1, r2, r3) := h
 clear h
 have H' := aM H
 clear H
 go_enter Tryz.func16, Tryz.ntmps16
 go_wp2
 repeat (go_quiet (fail); try go_wp2)
 go_loopg [5, 6] k (fun kq v5 v6 w' => ∃ (x5_1 : List (S40)) (x6_1 : Int), v6 = .int .i64 x6_1 ∧ Aside0 (tok_All.l0 kq a0 x5_1 x6_1 = some (r1, r2, r3)) ∧ Aside0 (kq ≤ k) ∧ Aside0 (Kd.R k40 40 w' w.heap.size (fun _ => True) v5 x5_1) ∧ Aside0 (Below w.heap.size w w'))
 case atStart => exact ⟨(([] : List (S40))), (0), vQ, H', ⟨Nat.le_refl _⟩, ⟨by first | exact Kd.R_nil _ _ _ _ _ | exact Kd.N_nil _ _ _ _ _ | exact Kd.V_nil _ _ _ _ _ | exact Kd.Q_nil _ _ _ _ _ | exact Kd.S_nil _ _ _ _ _⟩, ⟨bQ⟩⟩
 case round =>
  clear H'
  try clear c1
  obtain ⟨x5_1, x6_1, rfl, HA, HK1, HO_5, HB⟩ := hrel
  cases gk with
  | zero => exact absurd HA.out (by simp [tok_All.l0])
  | succ k1 =>
   have H := HA.out
   clear HA
   simp only [tok_All.l0] at H
   replace H := bS H
   obtain ⟨⟨t183, t184, t185, t186, t187, t188⟩, A2, H⟩ := H
   try dsimp only at H
   refine iEc H ?_ ?_<;>clear H<;>intro H c3b0 c3b1 c3
   rotate_left
   ·simp only [Option.some.injEq, Prod.mk.injEq] at H
    obtain ⟨rfl, rfl, rfl⟩ := H
    go_wp2_with (first | (go_at_call 27; (with_reducible refine (tok_Next.calls k1 a0 x6_1 t183 t184 t185 t186 t187 t188 _ ?side1 A2.out).mono ?_); (case side1 => exact gQ HG.out); rintro e w19 ⟨rfl, hb⟩; replace HO_5 := rK HO_5 hb; replace HB := sB hb; clear hb) | ((with_reducible refine gD 7 ?_); refine bE 7 (cs := #[.int .i64 0, .int .i64 0, .int .i64 0, .string (⟨#[]⟩ : ByteArray)]) (t := 40) ?_; intro gb189 hg w20 hbox hb; replace HO_5 := aM (Kd.R_below (Kd.R_elderB (mQ HO_5) gb189 (Nat.le_of_eq hg.symm)) hb); have BK189 := aM hbox; have GW189 := sG w hg; have GE189 := sG w hg; replace HB := sB hb; clear hb hbox hg; obtain ⟨hcz21_0, hcz21_1, hcz21_2, hcz21_3, hfz21_0, hfz21_1, hfz21_2, hfz21_3⟩ := b4 BK189))
    repeat (go_quiet (first | (go_at_call 27; (with_reducible refine (tok_Next.calls k1 a0 x6_1 t183 t184 t185 t186 t187 t188 _ ?side1 A2.out).mono ?_); (case side1 => exact gQ HG.out); rintro e w19 ⟨rfl, hb⟩; replace HO_5 := rK HO_5 hb; replace HB := sB hb; clear hb) | ((with_reducible refine gD 7 ?_); refine bE 7 (cs := #[.int .i64 0, .int .i64 0, .int .i64 0, .string (⟨#[]⟩ : ByteArray)]) (t := 40) ?_; intro gb189 hg w20 hbox hb; replace HO_5 := aM (Kd.R_below (Kd.R_elderB (mQ HO_5) gb189 (Nat.le_of_eq hg.symm)) hb); have BK189 := aM hbox; have GW189 := sG w hg; have GE189 := sG w hg; replace HB := sB hb; clear hb hbox hg; obtain ⟨hcz21_0, hcz21_1, hcz21_2, hcz21_3, hfz21_0, hfz21_1, hfz21_2, hfz21_3⟩ := b4 BK189)); try go_wp2_with (first | (go_at_call 27; (with_reducible refine (tok_Next.calls k1 a0 x6_1 t183 t184 t185 t186 t187 t188 _ ?side1 A2.out).mono ?_); (case side1 => exact gQ HG.out); rintro e w19 ⟨rfl, hb⟩; replace HO_5 := rK HO_5 hb; replace HB := sB hb; clear hb) | ((with_reducible refine gD 7 ?_); refine bE 7 (cs := #[.int .i64 0, .int .i64 0, .int .i64 0, .string (⟨#[]⟩ : ByteArray)]) (t := 40) ?_; intro gb189 hg w20 hbox hb; replace HO_5 := aM (Kd.R_below (Kd.R_elderB (mQ HO_5) gb189 (Nat.le_of_eq hg.symm)) hb); have BK189 := aM hbox; have GW189 := sG w hg; have GE189 := sG w hg; replace HB := sB hb; clear hb hbox hg; obtain ⟨hcz21_0, hcz21_1, hcz21_2, hcz21_3, hfz21_0, hfz21_1, hfz21_2, hfz21_3⟩ := b4 BK189)))
    go_ret3
    exact ⟨_, eQ, by first | exact Kd.R_nil _ _ _ _ _ | exact Kd.N_nil _ _ _ _ _ | exact Kd.V_nil _ _ _ _ _ | exact Kd.Q_nil _ _ _ _ _ | exact Kd.S_nil _ _ _ _ _, bQ⟩
   clear c3
   refine iEc H ?_ ?_<;>clear H<;>intro H c4b0 c4b1 c4
   ·clear c4
    simp only [Option.some.injEq, Prod.mk.injEq] at H
    obtain ⟨rfl, rfl, rfl⟩ := H
    go_wp2_with (first | (go_at_call 27; (with_reducible refine (tok_Next.calls k1 a0 x6_1 t183 t184 t185 t186 t187 t188 _ ?side1 A2.out).mono ?_); (case side1 => exact gQ HG.out); rintro e w5 ⟨rfl, hb⟩; replace HO_5 := rK HO_5 hb; replace HB := sB hb; clear hb) | ((with_reducible refine gD 7 ?_); refine bE 7 (cs := #[.int .i64 0, .int .i64 0, .int .i64 0, .string (⟨#[]⟩ : ByteArray)]) (t := 40) ?_; intro gb189 hg w6 hbox hb; replace HO_5 := aM (Kd.R_below (Kd.R_elderB (mQ HO_5) gb189 (Nat.le_of_eq hg.symm)) hb); have BK189 := aM hbox; have GW189 := sG w hg; have GE189 := sG w hg; replace HB := sB hb; clear hb hbox hg; obtain ⟨hcz7_0, hcz7_1, hcz7_2, hcz7_3, hfz7_0, hfz7_1, hfz7_2, hfz7_3⟩ := b4 BK189))
    repeat (go_quiet (first | (go_at_call 27; (with_reducible refine (tok_Next.calls k1 a0 x6_1 t183 t184 t185 t186 t187 t188 _ ?side1 A2.out).mono ?_); (case side1 => exact gQ HG.out); rintro e w5 ⟨rfl, hb⟩; replace HO_5 := rK HO_5 hb; replace HB := sB hb; clear hb) | ((with_reducible refine gD 7 ?_); refine bE 7 (cs := #[.int .i64 0, .int .i64 0, .int .i64 0, .string (⟨#[]⟩ : ByteArray)]) (t := 40) ?_; intro gb189 hg w6 hbox hb; replace HO_5 := aM (Kd.R_below (Kd.R_elderB (mQ HO_5) gb189 (Nat.le_of_eq hg.symm)) hb); have BK189 := aM hbox; have GW189 := sG w hg; have GE189 := sG w hg; replace HB := sB hb; clear hb hbox hg; obtain ⟨hcz7_0, hcz7_1, hcz7_2, hcz7_3, hfz7_0, hfz7_1, hfz7_2, hfz7_3⟩ := b4 BK189)); try go_wp2_with (first | (go_at_call 27; (with_reducible refine (tok_Next.calls k1 a0 x6_1 t183 t184 t185 t186 t187 t188 _ ?side1 A2.out).mono ?_); (case side1 => exact gQ HG.out); rintro e w5 ⟨rfl, hb⟩; replace HO_5 := rK HO_5 hb; replace HB := sB hb; clear hb) | ((with_reducible refine gD 7 ?_); refine bE 7 (cs := #[.int .i64 0, .int .i64 0, .int .i64 0, .string (⟨#[]⟩ : ByteArray)]) (t := 40) ?_; intro gb189 hg w6 hbox hb; replace HO_5 := aM (Kd.R_below (Kd.R_elderB (mQ HO_5) gb189 (Nat.le_of_eq hg.symm)) hb); have BK189 := aM hbox; have GW189 := sG w hg; have GE189 := sG w hg; replace HB := sB hb; clear hb hbox hg; obtain ⟨hcz7_0, hcz7_1, hcz7_2, hcz7_3, hfz7_0, hfz7_1, hfz7_2, hfz7_3⟩ := b4 BK189)))
    go_ret3
    exact ⟨_, eQ, by (with_reducible repeat first|apply rA|apply rD|apply r1); exact Kd.R_mono (Kd.R_far (p := ⟨gb189, 3, none⟩) (Kd.R_far (p := ⟨gb189, 2, none⟩) (Kd.R_far (p := ⟨gb189, 1, none⟩) (Kd.R_far (p := ⟨gb189, 0, none⟩) (Kd.R_mono HO_5.out (fun k_ hk => (⟨hk, hk.2⟩ : _ ∧ k_ ≠ gb189))) (fun _ hk => hk.2) (.int .i64 t183)) (fun _ hk => hk.2) (.int .i64 t184)) (fun _ hk => hk.2) (.int .i64 t185)) (fun _ hk => hk.2) (.string t186)) (fun _ hk => trivial), bQ⟩
   refine iEc H ?_ ?_<;>clear H<;>intro H c8b0 c8b1 c8
   ·clear c8
    simp only [Option.some.injEq, Prod.mk.injEq] at H
    obtain ⟨rfl, rfl, rfl⟩ := H
    go_wp2_with (first | (go_at_call 27; (with_reducible refine (tok_Next.calls k1 a0 x6_1 t183 t184 t185 t186 t187 t188 _ ?side1 A2.out).mono ?_); (case side1 => exact gQ HG.out); rintro e w9 ⟨rfl, hb⟩; replace HO_5 := rK HO_5 hb; replace HB := sB hb; clear hb) | ((with_reducible refine gD 7 ?_); refine bE 7 (cs := #[.int .i64 0, .int .i64 0, .int .i64 0, .string (⟨#[]⟩ : ByteArray)]) (t := 40) ?_; intro gb189 hg w10 hbox hb; replace HO_5 := aM (Kd.R_below (Kd.R_elderB (mQ HO_5) gb189 (Nat.le_of_eq hg.symm)) hb); have BK189 := aM hbox; have GW189 := sG w hg; have GE189 := sG w hg; replace HB := sB hb; clear hb hbox hg; obtain ⟨hcz11_0, hcz11_1, hcz11_2, hcz11_3, hfz11_0, hfz11_1, hfz11_2, hfz11_3⟩ := b4 BK189; obtain ⟨Ao12, co12, eo12⟩ := Kd.R_slice HO_5.out; subst eo12))
    repeat (go_quiet (first | (go_at_call 27; (with_reducible refine (tok_Next.calls k1 a0 x6_1 t183 t184 t185 t186 t187 t188 _ ?side1 A2.out).mono ?_); (case side1 => exact gQ HG.out); rintro e w9 ⟨rfl, hb⟩; replace HO_5 := rK HO_5 hb; replace HB := sB hb; clear hb) | ((with_reducible refine gD 7 ?_); refine bE 7 (cs := #[.int .i64 0, .int .i64 0, .int .i64 0, .string (⟨#[]⟩ : ByteArray)]) (t := 40) ?_; intro gb189 hg w10 hbox hb; replace HO_5 := aM (Kd.R_below (Kd.R_elderB (mQ HO_5) gb189 (Nat.le_of_eq hg.symm)) hb); have BK189 := aM hbox; have GW189 := sG w hg; have GE189 := sG w hg; replace HB := sB hb; clear hb hbox hg; obtain ⟨hcz11_0, hcz11_1, hcz11_2, hcz11_3, hfz11_0, hfz11_1, hfz11_2, hfz11_3⟩ := b4 BK189; obtain ⟨Ao12, co12, eo12⟩ := Kd.R_slice HO_5.out; subst eo12)); try go_wp2_with (first | (go_at_call 27; (with_reducible refine (tok_Next.calls k1 a0 x6_1 t183 t184 t185 t186 t187 t188 _ ?side1 A2.out).mono ?_); (case side1 => exact gQ HG.out); rintro e w9 ⟨rfl, hb⟩; replace HO_5 := rK HO_5 hb; replace HB := sB hb; clear hb) | ((with_reducible refine gD 7 ?_); refine bE 7 (cs := #[.int .i64 0, .int .i64 0, .int .i64 0, .string (⟨#[]⟩ : ByteArray)]) (t := 40) ?_; intro gb189 hg w10 hbox hb; replace HO_5 := aM (Kd.R_below (Kd.R_elderB (mQ HO_5) gb189 (Nat.le_of_eq hg.symm)) hb); have BK189 := aM hbox; have GW189 := sG w hg; have GE189 := sG w hg; replace HB := sB hb; clear hb hbox hg; obtain ⟨hcz11_0, hcz11_1, hcz11_2, hcz11_3, hfz11_0, hfz11_1, hfz11_2, hfz11_3⟩ := b4 BK189; obtain ⟨Ao12, co12, eo12⟩ := Kd.R_slice HO_5.out; subst eo12)))
    go_ret3
    exact ⟨_, eQ, by first | exact Kd.R_nil _ _ _ _ _ | exact Kd.N_nil _ _ _ _ _ | exact Kd.V_nil _ _ _ _ _ | exact Kd.Q_nil _ _ _ _ _ | exact Kd.S_nil _ _ _ _ _, bQ⟩
   refine iNc H ?_ ?_<;>clear H<;>intro H c13
   rotate_left
   ·exact absurd H (by simp)
   have LMc13 := aM c13
   clear c13
   obtain ⟨y190, hy190⟩ : ∃ y_ : List (S40), y_ = (x5_1 ++ [(⟨t183, t184, t185, t186⟩ : S40)]) := ⟨_, rfl⟩
   replace H : (tok_All.l0 k1 a0 y190 t187) = some (r1, r2, r3) := by first | (rw [hy190]; with_reducible exact H) | (have H2_ := (Option.bind_some _ _).symm.trans H; rw [hy190]; with_reducible exact H2_) | (have H2_ := (Option.bind_some _ _).symm.trans H; with_reducible exact H2_) | with_reducible exact H | (rw [hy190]; exact H) | exact H
   have Ny190 := aM hy190
   clear hy190
   have H' := aM H
   clear H
   go_wp2_with (first | (go_at_call 27; (with_reducible refine (tok_Next.calls k1 a0 x6_1 t183 t184 t185 t186 t187 t188 _ ?side1 A2.out).mono ?_); (case side1 => exact gQ HG.out); rintro e w14 ⟨rfl, hb⟩; replace HO_5 := rK HO_5 hb; replace HB := sB hb; clear hb) | ((with_reducible refine gD 7 ?_); refine bE 7 (cs := #[.int .i64 0, .int .i64 0, .int .i64 0, .string (⟨#[]⟩ : ByteArray)]) (t := 40) ?_; intro gb189 hg w15 hbox hb; replace HO_5 := aM (Kd.R_below (Kd.R_elderB (mQ HO_5) gb189 (Nat.le_of_eq hg.symm)) hb); have BK189 := aM hbox; have GW189 := sG w hg; have GE189 := sG w hg; replace HB := sB hb; clear hb hbox hg; obtain ⟨hcz16_0, hcz16_1, hcz16_2, hcz16_3, hfz16_0, hfz16_1, hfz16_2, hfz16_3⟩ := b4 BK189; obtain ⟨Ao17, co17, eo17⟩ := Kd.R_slice HO_5.out; subst eo17) | ((with_reducible refine gate_builtin (b := .append) (xs := #[.tmp 35, .tmp 37]) rfl ?_); at_builtin; refine Kd.R_append k40 (w0 := w) w.heap.size rfl (.tmp 35) (.tmp 37) 22 40 (.agg #[(.int .i64 0), (.int .i64 0), (.int .i64 0), (.string ⟨#[]⟩)]) 40 rfl Tryz.underlying22 info40 rfl (by decide) (by omega) (.slice Ao17 x5_1.length co17) x5_1 (⟨t183, t184, t185, t186⟩ : S40) [.int .i64 t183, .int .i64 t184, .int .i64 t185, .string t186] (fun k_ => k_ ≠ gb189) (fun _ => False) rfl (by first | (go_simp; done) | (go_simp; rfl)) ?aP (fun _ hk => hk.elim) ?aF ?aO ?aB ?aS ?aL ?_; (case aP => exact k40_mkM _ _ _ (⟨t183, t184, t185, t186⟩ : S40)); (case aB => exact bQ); (case aF => exact (fun k_ hk => Kd.freshB (g := gb189) (o := .cells #[.int .i64 t183, .int .i64 t184, .int .i64 t185, .string t186] 40 (0, 0)) kQ k_ hk)); (case aO => exact (by (with_reducible repeat first|apply rA|apply rD|apply r1); exact Kd.R_mono (Kd.R_far (p := ⟨gb189, 3, none⟩) (Kd.R_far (p := ⟨gb189, 2, none⟩) (Kd.R_far (p := ⟨gb189, 1, none⟩) (Kd.R_far (p := ⟨gb189, 0, none⟩) (Kd.R_mono HO_5.out (fun k_ hk => (⟨hk, hk.2⟩ : _ ∧ k_ ≠ gb189))) (fun _ hk => hk.2) (.int .i64 t183)) (fun _ hk => hk.2) (.int .i64 t184)) (fun _ hk => hk.2) (.int .i64 t185)) (fun _ hk => hk.2) (.string t186)) (fun _ hk => hk.1.2))); (case aS => exact (below_size bQ)); (case aL => have := LMc13.out; omega); intro v191 w18 ho hb hg hat; rw [← Ny190.out] at ho; have n0_ := aM (blk_grown (g := gb189) (o := .cells #[.int .i64 t183, .int .i64 t184, .int .i64 t185, .string t186] 40 (0, 0)) kQ hg (Kd.R_away HO_5.out (fun _ hk => hk.2))); have n1_ := aM hb; have n2_ := aM ho; clear BK189; clear HB; clear HO_5; have BK189 := n0_; have HB := n1_; have HO192 := n2_; clear n0_ n1_ n2_; clear ho hb hg hat))
   repeat (go_quiet (first | (go_at_call 27; (with_reducible refine (tok_Next.calls k1 a0 x6_1 t183 t184 t185 t186 t187 t188 _ ?side1 A2.out).mono ?_); (case side1 => exact gQ HG.out); rintro e w14 ⟨rfl, hb⟩; replace HO_5 := rK HO_5 hb; replace HB := sB hb; clear hb) | ((with_reducible refine gD 7 ?_); refine bE 7 (cs := #[.int .i64 0, .int .i64 0, .int .i64 0, .string (⟨#[]⟩ : ByteArray)]) (t := 40) ?_; intro gb189 hg w15 hbox hb; replace HO_5 := aM (Kd.R_below (Kd.R_elderB (mQ HO_5) gb189 (Nat.le_of_eq hg.symm)) hb); have BK189 := aM hbox; have GW189 := sG w hg; have GE189 := sG w hg; replace HB := sB hb; clear hb hbox hg; obtain ⟨hcz16_0, hcz16_1, hcz16_2, hcz16_3, hfz16_0, hfz16_1, hfz16_2, hfz16_3⟩ := b4 BK189; obtain ⟨Ao17, co17, eo17⟩ := Kd.R_slice HO_5.out; subst eo17) | ((with_reducible refine gate_builtin (b := .append) (xs := #[.tmp 35, .tmp 37]) rfl ?_); at_builtin; refine Kd.R_append k40 (w0 := w) w.heap.size rfl (.tmp 35) (.tmp 37) 22 40 (.agg #[(.int .i64 0), (.int .i64 0), (.int .i64 0), (.string ⟨#[]⟩)]) 40 rfl Tryz.underlying22 info40 rfl (by decide) (by omega) (.slice Ao17 x5_1.length co17) x5_1 (⟨t183, t184, t185, t186⟩ : S40) [.int .i64 t183, .int .i64 t184, .int .i64 t185, .string t186] (fun k_ => k_ ≠ gb189) (fun _ => False) rfl (by first | (go_simp; done) | (go_simp; rfl)) ?aP (fun _ hk => hk.elim) ?aF ?aO ?aB ?aS ?aL ?_; (case aP => exact k40_mkM _ _ _ (⟨t183, t184, t185, t186⟩ : S40)); (case aB => exact bQ); (case aF => exact (fun k_ hk => Kd.freshB (g := gb189) (o := .cells #[.int .i64 t183, .int .i64 t184, .int .i64 t185, .string t186] 40 (0, 0)) kQ k_ hk)); (case aO => exact (by (with_reducible repeat first|apply rA|apply rD|apply r1); exact Kd.R_mono (Kd.R_far (p := ⟨gb189, 3, none⟩) (Kd.R_far (p := ⟨gb189, 2, none⟩) (Kd.R_far (p := ⟨gb189, 1, none⟩) (Kd.R_far (p := ⟨gb189, 0, none⟩) (Kd.R_mono HO_5.out (fun k_ hk => (⟨hk, hk.2⟩ : _ ∧ k_ ≠ gb189))) (fun _ hk => hk.2) (.int .i64 t183)) (fun _ hk => hk.2) (.int .i64 t184)) (fun _ hk => hk.2) (.int .i64 t185)) (fun _ hk => hk.2) (.string t186)) (fun _ hk => hk.1.2))); (case aS => exact (below_size bQ)); (case aL => have := LMc13.out; omega); intro v191 w18 ho hb hg hat; rw [← Ny190.out] at ho; have n0_ := aM (blk_grown (g := gb189) (o := .cells #[.int .i64 t183, .int .i64 t184, .int .i64 t185, .string t186] 40 (0, 0)) kQ hg (Kd.R_away HO_5.out (fun _ hk => hk.2))); have n1_ := aM hb; have n2_ := aM ho; clear BK189; clear HB; clear HO_5; have BK189 := n0_; have HB := n1_; have HO192 := n2_; clear n0_ n1_ n2_; clear ho hb hg hat)); try go_wp2_with (first | (go_at_call 27; (with_reducible refine (tok_Next.calls k1 a0 x6_1 t183 t184 t185 t186 t187 t188 _ ?side1 A2.out).mono ?_); (case side1 => exact gQ HG.out); rintro e w14 ⟨rfl, hb⟩; replace HO_5 := rK HO_5 hb; replace HB := sB hb; clear hb) | ((with_reducible refine gD 7 ?_); refine bE 7 (cs := #[.int .i64 0, .int .i64 0, .int .i64 0, .string (⟨#[]⟩ : ByteArray)]) (t := 40) ?_; intro gb189 hg w15 hbox hb; replace HO_5 := aM (Kd.R_below (Kd.R_elderB (mQ HO_5) gb189 (Nat.le_of_eq hg.symm)) hb); have BK189 := aM hbox; have GW189 := sG w hg; have GE189 := sG w hg; replace HB := sB hb; clear hb hbox hg; obtain ⟨hcz16_0, hcz16_1, hcz16_2, hcz16_3, hfz16_0, hfz16_1, hfz16_2, hfz16_3⟩ := b4 BK189; obtain ⟨Ao17, co17, eo17⟩ := Kd.R_slice HO_5.out; subst eo17) | ((with_reducible refine gate_builtin (b := .append) (xs := #[.tmp 35, .tmp 37]) rfl ?_); at_builtin; refine Kd.R_append k40 (w0 := w) w.heap.size rfl (.tmp 35) (.tmp 37) 22 40 (.agg #[(.int .i64 0), (.int .i64 0), (.int .i64 0), (.string ⟨#[]⟩)]) 40 rfl Tryz.underlying22 info40 rfl (by decide) (by omega) (.slice Ao17 x5_1.length co17) x5_1 (⟨t183, t184, t185, t186⟩ : S40) [.int .i64 t183, .int .i64 t184, .int .i64 t185, .string t186] (fun k_ => k_ ≠ gb189) (fun _ => False) rfl (by first | (go_simp; done) | (go_simp; rfl)) ?aP (fun _ hk => hk.elim) ?aF ?aO ?aB ?aS ?aL ?_; (case aP => exact k40_mkM _ _ _ (⟨t183, t184, t185, t186⟩ : S40)); (case aB => exact bQ); (case aF => exact (fun k_ hk => Kd.freshB (g := gb189) (o := .cells #[.int .i64 t183, .int .i64 t184, .int .i64 t185, .string t186] 40 (0, 0)) kQ k_ hk)); (case aO => exact (by (with_reducible repeat first|apply rA|apply rD|apply r1); exact Kd.R_mono (Kd.R_far (p := ⟨gb189, 3, none⟩) (Kd.R_far (p := ⟨gb189, 2, none⟩) (Kd.R_far (p := ⟨gb189, 1, none⟩) (Kd.R_far (p := ⟨gb189, 0, none⟩) (Kd.R_mono HO_5.out (fun k_ hk => (⟨hk, hk.2⟩ : _ ∧ k_ ≠ gb189))) (fun _ hk => hk.2) (.int .i64 t183)) (fun _ hk => hk.2) (.int .i64 t184)) (fun _ hk => hk.2) (.int .i64 t185)) (fun _ hk => hk.2) (.string t186)) (fun _ hk => hk.1.2))); (case aS => exact (below_size bQ)); (case aL => have := LMc13.out; omega); intro v191 w18 ho hb hg hat; rw [← Ny190.out] at ho; have n0_ := aM (blk_grown (g := gb189) (o := .cells #[.int .i64 t183, .int .i64 t184, .int .i64 t185, .string t186] 40 (0, 0)) kQ hg (Kd.R_away HO_5.out (fun _ hk => hk.2))); have n1_ := aM hb; have n2_ := aM ho; clear BK189; clear HB; clear HO_5; have BK189 := n0_; have HB := n1_; have HO192 := n2_; clear n0_ n1_ n2_; clear ho hb hg hat)))
   go_roundg k1
   case measure => have := HK1.out; omega
   case rel => exact ⟨(y190), (t187), vQ, H', ⟨by have := HK1.out; omega⟩, ⟨by (with_reducible repeat first|apply rA|apply rD|apply r1); exact Kd.R_mono HO192.out (fun _ hk => trivial)⟩, ⟨bQ⟩⟩
def hornbooklaw05_read.f (k : Nat) (a0 : ByteArray) : Option ((List (S43)) × Bool) := (tok_All.f k a0).bind fun bt193 => (if bt193.2.2 = 0 then ((syn_Parse.f bt193.1 (a0.size : Int)).bind fun bt198 => (some (bt198.1, (bt198.2.2 == 0)))) else (some (([] : List (S43)), false)))
theorem hornbooklaw05_read.mono : ∀ a0 k, LeO (hornbooklaw05_read.f k a0) (hornbooklaw05_read.f (k + 1) a0) := by
 intro a0 k
 unfold hornbooklaw05_read.f
 repeat' first
   | (with_reducible exact tok_All.mono _ _)
   | (with_reducible exact LeO.refl _)
   | (with_reducible exact LeO.none _)
   | (with_reducible refine LeO.ite ?_ ?_)
   | (with_reducible refine LeO.bind ?_ (fun _ => ?_))
   | exact tok_All.mono _ _
   | exact LeO.none _
   | refine LeO.ite ?_ ?_
   | refine LeO.bind ?_ (fun _ => ?_)
set_option maxHeartbeats 8000000 in
set_option maxRecDepth 100000 in
theorem hornbooklaw05_read.calls (k : Nat) (a0 : ByteArray) (r1 : List (S43)) (r2 : Bool) (w : World) (hG : GW w) (h : hornbooklaw05_read.f k a0 = some (r1, r2)) :
  Calls Tryz.prog 19 #[.string a0] w fun e w' => ∃ v0_ : Value, e = .returned (.tuple #[v0_, .bool r2]) ∧ Kd.R k43 43 w' w.heap.size (fun _ => True) v0_ r1 ∧ Below w.heap.size w w' := by
 have HG := aM hG
 clear hG
 have HB := aM (Below.refl w.heap.size w)
 have H : ((tok_All.f k a0).bind fun bt193 => (if bt193.2.2 = 0 then ((syn_Parse.f bt193.1 (a0.size : Int)).bind fun bt198 => (some (bt198.1, (bt198.2.2 == 0)))) else (some (([] : List (S43)), false)))) = some (r1, r2) := h
 clear h
 replace H := bS H
 obtain ⟨⟨t193, t194, t195⟩, A2, H⟩ := H
 try dsimp only at H
 refine iEc H ?_ ?_<;>clear H<;>intro H c3b0 c3b1 c3
 rotate_left
 ·simp only [Option.some.injEq, Prod.mk.injEq] at H
  obtain ⟨rfl, rfl⟩ := H
  go_enter Tryz.func19, Tryz.ntmps19
  go_wp2_with (first | ((with_reducible refine gC 16 ?_); refine gL (some 12) Tryz.func16 #[.string a0] ?_; (with_reducible refine (tok_All.calls k a0 t193 t194 t195 _ ?side1 A2.out).mono ?_); (case side1 => exact gQ HG.out); rintro e w8 ⟨v196, rfl, ho0, hb⟩; refine ⟨_, rfl, ?_⟩; have HO197 := lK ho0; replace HB := sB hb; clear hb ho0))
  go_ret2
  exact ⟨_, eQ, by first | exact Kd.R_nil _ _ _ _ _ | exact Kd.N_nil _ _ _ _ _ | exact Kd.V_nil _ _ _ _ _ | exact Kd.Q_nil _ _ _ _ _ | exact Kd.S_nil _ _ _ _ _, bQ⟩
 clear c3
 replace H := bS H
 obtain ⟨⟨t198, t199, t200⟩, A4, H⟩ := H
 try dsimp only at H
 simp only [Option.some.injEq, Prod.mk.injEq] at H
 obtain ⟨rfl, rfl⟩ := H
 go_enter Tryz.func19, Tryz.ntmps19
 go_wp2_with (first | ((with_reducible refine gC 16 ?_); refine gL (some 12) Tryz.func16 #[.string a0] ?_; (with_reducible refine (tok_All.calls k a0 t193 t194 t195 _ ?side1 A2.out).mono ?_); (case side1 => exact gQ HG.out); rintro e w5 ⟨v196, rfl, ho0, hb⟩; refine ⟨_, rfl, ?_⟩; have HO197 := lK ho0; replace HB := sB hb; clear hb ho0; obtain ⟨Ao6, co6, eo6⟩ := Kd.R_slice HO197.out; subst eo6) | ((with_reducible refine gC 10 ?_); refine gL (some 22) Tryz.func10 #[.slice Ao6 t193.length co6, .int .i64 (a0.size : Int)] ?_; (with_reducible refine (syn_Parse.calls _ _ t193 (a0.size : Int) t198 t199 t200 _ ?side1 ?side2 A4.out).mono ?_); (case side1 => exact cQ HO197); (case side2 => exact (Kd.R_reads' HO197.out).2.1); rintro e w7 ⟨v201, rfl, ho0, hb⟩; refine ⟨_, rfl, ?_⟩; replace HO197 := rK HO197 hb; have HO202 := lK ho0; replace HB := sB hb; clear hb ho0))
 go_ret2
 exact ⟨_, eQ, mQ HO202, bQ⟩
end Go.Proofs.YtjplnhdplpiogaaGreatDoor.M
end
section
namespace Go.Proofs.YtjplnhdplpiogaaGreatDoor.M
open Go.RowKit Go.Proofs.YtjplnhdplpiogaaGreatDoorW.PrintWords Go.Proofs.YtjplnhdplpiogaaGreatDoorW.PrintLast Go.Proofs.YtjplnhdplpiogaaGreatDoorW.PrintMore
set_option linter.unusedVariables false
set_option linter.unusedSimpArgs false
set_option maxRecDepth 100000
set_option maxHeartbeats 8000000
def exOk (l : List S43) : Prop := l.length = 2 ∧ (rd_T43 l 0).f4.length = 1 ∧ (rd_T43 l 0).f0 = 4 ∧ (rd_T43 l 0).f1 = 2 ∧ (rd_T50 (rd_T43 l 0).f4 0).f0.f0 = 1 ∧ (rd_T50 (rd_T43 l 0).f4 0).f0.f1 = 65 ∧ (rd_T50 (rd_T43 l 0).f4 0).f1.f0 = 1 ∧ (rd_T50 (rd_T43 l 0).f4 0).f1.f1 = 65 ∧ (rd_T50 (rd_T43 l 0).f4 0).f2 = 7 ∧ (rd_T43 l 1).f0 = 0 ∧ (rd_T43 l 1).f2.toList = [87] ∧ (rd_T43 l 1).f3.f2 = 1
instance (l : List S43) : Decidable (exOk l) := by unfold exOk; infer_instance
def hornbooklaw05_awake.f (k : Nat) : Option Bool := (hornbooklaw05_read.f k (⟨#[49, 32, 98, 101, 103, 105, 110, 99, 105, 100, 99, 104, 97, 114, 32, 60, 52, 49, 62, 32, 55, 32, 101, 110, 100, 99, 105, 100, 99, 104, 97, 114, 32, 47, 87, 32, 49, 32, 100, 101, 102]⟩ : ByteArray)).bind fun r => if r.2 = true ∧ exOk r.1 then some true else none
theorem hornbooklaw05_awake.mono (k : Nat) : LeO (hornbooklaw05_awake.f k) (hornbooklaw05_awake.f (k + 1)) := LeO.bind (hornbooklaw05_read.mono _ _) (fun _ => LeO.refl _)
theorem hornbooklaw05_awake.calls (k : Nat) (r : Bool) (w : World) (hG : GW w) (h : hornbooklaw05_awake.f k = some r) : Calls Tryz.prog 8 #[] w fun e w' => e = .returned (.bool r) ∧ Below w.heap.size w w' := by
 have hu46 := Tryz.underlying46
 have HB := aM (Below.refl w.heap.size w)
 unfold hornbooklaw05_awake.f at h
 obtain ⟨⟨l, b⟩, hr, h⟩ := Option.bind_eq_some_iff.mp h
 dsimp only at h
 split at h
 rotate_left
 ·cases h
 rename_i hc
 obtain rfl := Option.some.inj h
 obtain ⟨rfl, hl, hl4, h0, h1, g0, g1, g2, g3, g4, j0, j1, j2⟩ := hc
 have HR := aM hr
 have HG := aM hG
 have hlq : (((l.length : Nat) : Int) != 2) = false := bne_eq_false_iff_eq.mpr (by omega)
 have hll : (((rd_T43 l 0).f4.length : Int) != 1) = false := bne_eq_false_iff_eq.mpr (by omega)
 clear h hr hG
 go_enter Tryz.func8, Tryz.ntmps8
 go_wp2_with (first | (go_at_call 19; (with_reducible refine (hornbooklaw05_read.calls k _ l true _ HG.out HR.out).mono ?_); rintro x w1 ⟨v, rfl, ho, hb⟩; replace HB := sB hb; have HO := aM ho; obtain ⟨Al, cl, rfl⟩ := Kd.R_slice ho; have hC := (Kd.R_reads' ho).2.2; obtain ⟨ad, A7, c7, rfl, x0, x1, x2, x3, x4, x5, x6, x7, lc7, hE⟩ := at_T43 hC 0 (by omega) (by omega); obtain ⟨ad2, B7, d7, eq2, y0, y1, y2, y3, y4, y5, y6, y7, lc8, hE2⟩ := at_T43 hC 1 (by omega) (by omega); obtain rfl : ad = ad2 := (by injection eq2); obtain ⟨ae, A5, c5, A6, c6, rfl, e0, e1, e2, e3, e4, e5, e6, -, -, -, -⟩ := at_T50 hE 0 (by omega) (by omega); rw [h0] at x0; rw [h1] at x1; rw [g0] at e0; rw [g1] at e1; rw [g2] at e2; rw [g3] at e3; rw [g4] at e4; rw [j0] at y0; rw [j2] at y5; simp only [show (0 : Int).toNat = 0 from rfl, show (1 : Int).toNat = 1 from rfl, Nat.reduceMul, Nat.reduceEqDiff, Go.Addr.add, ↓reduceIte, Nat.zero_mul, Nat.one_mul] at x0 x1 x7 y0 y2 y5 e0 e1 e2 e3 e4; have z1 := eq_true (show (0 : Int) < l.length by omega); have z2 := eq_true (show (1 : Int) < l.length by omega); have z3 := eq_true (show (0 : Int) < (rd_T43 l 0).f4.length by omega); clear hb ho hC hE hE2))
 have j1' : ((rd_T43 l 1).f2.toList == [87]) = true := beq_iff_eq.mpr j1
 have hb2 := below_alloc HB.out (.cells #[.int .i64 1, .int .i64 65] 46)
 simp only [List.append_eq, List.cons_append, List.nil_append]
 refine norm_w (F := fun W => (W.cell? ad = some (.int .i64 4) ∧ W.cell? ⟨ad.block, ad.off + 1, none⟩ = some (.int .i64 2) ∧ W.cell? ⟨ad.block, ad.off + 7, none⟩ = some (.slice (some ae) (rd_T43 l 0).f4.length c7) ∧ W.cell? ⟨ad.block, ad.off + 8, none⟩ = some (.int .i64 0) ∧ W.cell? ⟨ad.block, ad.off + 8 + 2, none⟩ = some (.string (rd_T43 l 1).f2) ∧ W.cell? ⟨ad.block, ad.off + 8 + 5, none⟩ = some (.int .i64 1) ∧ W.cell? ae = some (.int .i64 1) ∧ W.cell? ⟨ae.block, ae.off + 1, none⟩ = some (.int .i64 65) ∧ W.cell? ⟨ae.block, ae.off + 2, none⟩ = some (.int .i64 1) ∧ W.cell? ⟨ae.block, ae.off + 3, none⟩ = some (.int .i64 65) ∧ W.cell? ⟨ae.block, ae.off + 4, none⟩ = some (.int .i64 7) ∧ W.cell? ⟨w1.heap.size, 0, none⟩ = some (.int .i64 1) ∧ W.cell? ⟨w1.heap.size, 1, none⟩ = some (.int .i64 65)) ∧ Below w.heap.size w W) ⟨⟨al_cell0 _ x0, al_cell0 _ x1, al_cell0 _ x7, al_cell0 _ y0, al_cell0 _ y2, al_cell0 _ y5, al_cell0 _ e0, al_cell0 _ e1, al_cell0 _ e2, al_cell0 _ e3, al_cell0 _ e4, blk_cell (blk_new w1 (.cells #[.int .i64 1, .int .i64 65] 46)) 0, blk_cell (blk_new w1 (.cells #[.int .i64 1, .int .i64 65] 46)) 1⟩, hb2⟩ ?_
 clear x0 x1 x7 y0 y2 y5 e0 e1 e2 e3 e4 HB hb2
 rintro w5 ⟨⟨x0, x1, x7, y0, y2, y5, e0, e1, e2, e3, e4, n0, n1⟩, hb5⟩
 have HB := aM hb5
 clear hb5
 go_region_held3 (fun W : World => W.cell? ad = some (.int .i64 4) ∧ W.cell? ⟨ad.block, ad.off + 1, none⟩ = some (.int .i64 2) ∧ W.cell? ⟨ad.block, ad.off + 7, none⟩ = some (.slice (some ae) (rd_T43 l 0).f4.length c7) ∧ W.cell? ⟨ad.block, ad.off + 8, none⟩ = some (.int .i64 0) ∧ W.cell? ⟨ad.block, ad.off + 8 + 2, none⟩ = some (.string (rd_T43 l 1).f2) ∧ W.cell? ⟨ad.block, ad.off + 8 + 5, none⟩ = some (.int .i64 1) ∧ W.cell? ae = some (.int .i64 1) ∧ W.cell? ⟨ae.block, ae.off + 1, none⟩ = some (.int .i64 65) ∧ W.cell? ⟨ae.block, ae.off + 2, none⟩ = some (.int .i64 1) ∧ W.cell? ⟨ae.block, ae.off + 3, none⟩ = some (.int .i64 65) ∧ W.cell? ⟨ae.block, ae.off + 4, none⟩ = some (.int .i64 7) ∧ W.cell? ⟨w1.heap.size, 0, none⟩ = some (.int .i64 1) ∧ W.cell? ⟨w1.heap.size, 1, none⟩ = some (.int .i64 65)) (first | exact ⟨x0, x1, x7, y0, y2, y5, e0, e1, e2, e3, e4, n0, n1⟩ | exact ⟨pw_cell_below hb x0, pw_cell_below hb x1, pw_cell_below hb x7, pw_cell_below hb y0, pw_cell_below hb y2, pw_cell_below hb y5, pw_cell_below hb e0, pw_cell_below hb e1, pw_cell_below hb e2, pw_cell_below hb e3, pw_cell_below hb e4, pw_cell_below hb n0, pw_cell_below hb n1⟩) (first | (go_at_call 14; (with_reducible refine (syn_Begin.calls 8 (⟨#[98, 101, 103, 105, 110, 98, 102, 99, 104, 97, 114]⟩ : ByteArray) _ rfl).mono ?_); rintro x w2 ⟨rfl, hb⟩; replace HB := sB hb))
 go_wp2_with (fail)
 go_ret
 exact ⟨rfl, bQ⟩
end Go.Proofs.YtjplnhdplpiogaaGreatDoor.M
end
section
namespace Go.Proofs.YtjplnhdplpiogaaGreatDoor.M
open Go.RowKit Go.Proofs.YtjplnhdplpiogaaGreatDoorW.PrintWords Go.Proofs.YtjplnhdplpiogaaGreatDoorW.PrintLast Go.Proofs.YtjplnhdplpiogaaGreatDoorW.PrintMore
attribute [local go_sem] max2_int min2_int max_two min_two max_three min_three max_four min_four
set_option linter.unusedVariables false
set_option linter.unusedSimpArgs false
def hornbookref04_Few.l0 : Nat → List (S40) → Int → Int → Option (Bool)
 | 0, _, _, _ => none
 | k + 1, x0, x3, x4 => if x4 < (x0.length : Int) then (if x4 < 300 then (if 0 ≤ x4 then (hornbookref04_Few.l0 k x0 (wrap64 (x3 + (mn (((rd_T40 x0 x4).f3).size : Int) 3000))) (wrap64 (x4 + 1))) else (none)) else (if (x0.length : Int) ≤ 300 then (some (decide (x3 ≤ 3000))) else (some false))) else (if (x0.length : Int) ≤ 300 then (some (decide (x3 ≤ 3000))) else (some false))
def hornbookref04_Few.f (k : Nat) (l0 : List (S40)) : Option (Bool) := hornbookref04_Few.l0 k l0 0 0
set_option maxHeartbeats 8000000 in
set_option maxRecDepth 100000 in
theorem hornbookref04_Few.calls (k : Nat) (A0 : Option Addr) (c0 : Nat) (l0 : List (S40)) (r : Bool) (w : World) (hr0 : Kd.C k40 w A0 l0.length l0) (hc0 : l0.length ≤ c0) (h : hornbookref04_Few.f k l0 = some r) :
  Calls Tryz.prog 9 #[.slice A0 l0.length c0] w fun e w' => e = .returned (.bool r) ∧ Below w.heap.size w w' := by
 have HR0 := aM hr0
 have HC0 := aM hc0
 clear hr0 hc0
 have HB := aM (Below.refl w.heap.size w)
 have H : (hornbookref04_Few.l0 k l0 0 0) = some r := h
 clear h
 have H' := aM H
 clear H
 go_enter Tryz.func9, Tryz.ntmps9
 go_wp2
 go_loopg [3, 4] k (fun kq v3 v4 w' => ∃ (x3_1 : Int) (x4_1 : Int), v3 = .int .i64 x3_1 ∧ v4 = .int .i64 x4_1 ∧ Aside0 (hornbookref04_Few.l0 kq l0 x3_1 x4_1 = some r) ∧ Aside0 (kq ≤ k) ∧ Aside0 (Below w.heap.size w w'))
 case atStart => exact ⟨(0), (0), vQ, vQ, H', ⟨Nat.le_refl _⟩, ⟨bQ⟩⟩
 case round =>
  clear H'
  obtain ⟨x3_1, x4_1, rfl, rfl, HA, HK1, HB⟩ := hrel
  cases gk with
  | zero => exact absurd HA.out (by simp [hornbookref04_Few.l0])
  | succ k1 =>
   have H := HA.out
   clear HA
   simp only [hornbookref04_Few.l0] at H
   refine iD H ?_ ?_<;>clear H<;>intro H c2b0
   rotate_left
   ·refine iDc H ?_ ?_<;>clear H<;>intro H c7b0 c7
    ·have c7b1 : decide (l0.length ≤ 300) = true := decide_eq_true (by omega)
     clear c7
     obtain rfl := Option.some.inj H
     go_wp2
     go_ret
     exact ⟨eQ, bQ⟩
    have c7b1 : decide (l0.length ≤ 300) = false := decide_eq_false (by omega)
    clear c7
    obtain rfl := Option.some.inj H
    go_wp2
    go_ret
    exact ⟨eQ, bQ⟩
   refine iD H ?_ ?_<;>clear H<;>intro H c3b0
   rotate_left
   ·refine iDc H ?_ ?_<;>clear H<;>intro H c6b0 c6
    ·have c6b1 : decide (l0.length ≤ 300) = true := decide_eq_true (by omega)
     clear c6
     obtain rfl := Option.some.inj H
     go_wp2
     go_ret
     exact ⟨eQ, bQ⟩
    have c6b1 : decide (l0.length ≤ 300) = false := decide_eq_false (by omega)
    clear c6
    obtain rfl := Option.some.inj H
    go_wp2
    go_ret
    exact ⟨eQ, bQ⟩
   refine iD H ?_ ?_<;>clear H<;>intro H c4b0
   rotate_left
   ·exact absurd H (by simp)
   obtain ⟨ji5, hji5⟩ : ∃ j_ : Int, (mn (((rd_T40 l0 x4_1).f3).size : Int) 3000) = j_ := ⟨_, rfl⟩
   replace H : (hornbookref04_Few.l0 k1 l0 (wrap64 (x3_1 + (ji5))) (wrap64 (x4_1 + 1))) = some r := by first | (rw [hji5] at H; exact H) | (simp only [hji5] at H ⊢; exact H)
   have hji5_ : (if 3000 < (((rd_T40 l0 x4_1).f3).size : Int) then 3000 else (((rd_T40 l0 x4_1).f3).size : Int)) = ji5 := hji5
   have H' := aM H
   clear H
   have p203 : 0 ≤ (x4_1 : Int) := of_decide_eq_true hQ
   have q203 : x4_1 < (l0.length : Int) := of_decide_eq_true hQ
   obtain ⟨ad203, e203, hx203_0, hx203_1, hx203_2, hx203_3⟩ := at_T40 HR0.out x4_1 p203 q203
   cases e203
   replace hx203_0 := (HB.out.cell (World.block_lt_of_cell? w _ hx203_0)).trans hx203_0
   replace hx203_1 := (HB.out.cell (World.block_lt_of_cell? w _ hx203_1)).trans hx203_1
   replace hx203_2 := (HB.out.cell (World.block_lt_of_cell? w _ hx203_2)).trans hx203_2
   replace hx203_3 := (HB.out.cell (World.block_lt_of_cell? w _ hx203_3)).trans hx203_3
   replace p203 := eq_true p203
   replace q203 := eq_true q203
   go_wp2
   go_roundg k1
   case measure => have := HK1.out; omega
   case rel => exact ⟨(wrap64 (x3_1 + (ji5))), (wrap64 (x4_1 + 1)), (by first | rfl | (simp; done) | (simp only [← hji5] <;> (first | rfl | simp)) | (simp [*]; done)), vQ, H', ⟨by have := HK1.out; omega⟩, ⟨bQ⟩⟩
end Go.Proofs.YtjplnhdplpiogaaGreatDoor.M
end
