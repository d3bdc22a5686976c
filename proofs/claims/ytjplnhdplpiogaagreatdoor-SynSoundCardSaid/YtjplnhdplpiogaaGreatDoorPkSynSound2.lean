/- Packed by this session's program hbpack.py out of this claim's own texts (QK, G, Ya, Q161, Q56, Yb, Yc, Yd, Q92, Q101, Q80, Q81, Ye, Yf, Yg, Yh, Yi, Yk, Yl, Yo, Yp, Yq, Q149, Q29, Q147, Q123, Q124, Yr, Lr, Cv, Ys): the same declarations, without those that the claim does not use. -/
import Derived.Test.YtjplnhdplpiogaaGreatDoorPkSynSound1
import Derived.Below
import Derived.Deep.Draws
import Derived.Deep.AppendLies
import Derived.Maps.AppendAt
import Derived.OwnWalk
import Derived.Laws.BytesArg
import Derived.Laws.MakeOwn
import Derived.Laws.OwnMore
import Derived.Deep.OwnRows
import Derived.Tactics
import Derived.Lib.ConvBytes
import Derived.Laws.Slices
import Derived.WalkKit
import Derived.KernelRfl
import Derived.RowKit3
import Derived.Deep.LoopGhost
import Derived.Deep.QuietTactic
import Derived.BigQuiet
import Derived.WideLaws
import Derived.Deep.DeepCutAuto
import Derived.Deep.CutBlock
import Derived.Deep.RegionHeld3
import Derived.Laws.Rows
import Derived.Lib.AppendStr
import Derived.ArgAppend
import Derived.Laws.IdiomCopy
import Derived.OrdersHeld
import Derived.Laws.BitsLemmas
import Derived.RowKit
import Derived.Test.YtjplnhdplpiogaaGreatDoorProg
import Derived.Lib.LaidTab
import Derived.Lib.ItoaNum
import Derived.Defers
import Derived.Recover
import Derived.Deep.RegionLaw
import Derived.Deep.RegionWith
import Derived.Lib.Strings
import Derived.Lib.IndexBytes
section
/- Laid by this session's program hbprint.py out of the translation: the values' own kinds. -/
namespace Go.Proofs.YtjplnhdplpiogaaGreatDoor.M
open Go.RowKit Go.Proofs.YtjplnhdplpiogaaGreatDoorW.PrintWords Go.Proofs.YtjplnhdplpiogaaGreatDoorW.PrintLast Go.Proofs.YtjplnhdplpiogaaGreatDoorW.PrintMore
attribute [local go_sem] max2_int min2_int max_two min_two max_three min_three max_four min_four
set_option linter.unusedVariables false
set_option linter.unusedSimpArgs false
def errW : Option Int → Value
 | none => .nilIface
 | some c => .iface 0 (.int .i64 c)
theorem errW_none : errW none = .nilIface := rfl
theorem errW_some (c : Int) : errW (some c) = .iface 0 (.int .i64 c) := rfl
theorem info3 : (Tryz.prog.info? 3).map (fun i => (i.zero, i.size, i.bytes)) = some (some (.int .i64 0), 1, 8) := by kernel_rfl
theorem info5 : (Tryz.prog.info? 5).map (fun i => (i.zero, i.size, i.bytes)) = some (some (.int .u8 0), 1, 1) := by kernel_rfl
theorem info40 : (Tryz.prog.info? 40).map (fun i => (i.zero, i.size, i.bytes)) = some (some (.agg #[(.int .i64 0), (.int .i64 0), (.int .i64 0), (.string ⟨#[]⟩)]), 4, 40) := by kernel_rfl
structure S40 where
 f0 : Int
 f1 : Int
 f2 : Int
 f3 : ByteArray
def z40 : S40 := ⟨(0 : Int), (0 : Int), (0 : Int), (⟨#[]⟩ : ByteArray)⟩
def k40 : Kd S40 := Kd.iso (Kd.pair (Kd.int .i64) (Kd.pair (Kd.int .i64) (Kd.pair (Kd.int .i64) Kd.string))) (fun x : S40 => (x.f0, x.f1, x.f2, x.f3))
theorem k40_open {w : World} {x : S40} {cs : List Value} (h : k40.K w x cs) : cs = [.int .i64 x.f0, .int .i64 x.f1, .int .i64 x.f2, .string x.f3] := by
 obtain ⟨_, _, rfl, rfl, ⟨_, _, rfl, rfl, ⟨_, _, rfl, rfl, rfl⟩⟩⟩ := h
 exact rfl
theorem k40_openM {w : World} {base : Nat} {ok : Nat → Prop} {x : S40} {cs : List Value} (h : k40.M w base ok x cs) : cs = [.int .i64 x.f0, .int .i64 x.f1, .int .i64 x.f2, .string x.f3] := by
 obtain ⟨_, _, rfl, rfl, ⟨_, _, rfl, rfl, ⟨_, _, rfl, rfl, rfl⟩⟩⟩ := h
 exact rfl
theorem k40_mkM (w : World) (base : Nat) (ok : Nat → Prop) (x : S40)  : k40.M w base ok x [.int .i64 x.f0, .int .i64 x.f1, .int .i64 x.f2, .string x.f3] := ⟨[.int .i64 x.f0], [.int .i64 x.f1, .int .i64 x.f2, .string x.f3], rfl, rfl, ⟨[.int .i64 x.f1], [.int .i64 x.f2, .string x.f3], rfl, rfl, ⟨[.int .i64 x.f2], [.string x.f3], rfl, rfl, rfl⟩⟩⟩
def rd_T40 (xs : List S40) (i : Int) : S40 := xs.getD i.toNat z40
theorem at_T40 {w : World} {A : Option Addr} {n : Nat} {xs : List S40} (h : Kd.C k40 w A n xs) (i : Int) (h0 : 0 ≤ i) (h1 : i < n) : ∃ ad , A = some ad ∧ w.cell? (ad.add (i.toNat * 4)) = some (.int .i64 (rd_T40 xs i).f0) ∧ w.cell? ⟨(ad.add (i.toNat * 4)).block, (ad.add (i.toNat * 4)).off + 1, none⟩ = some (.int .i64 (rd_T40 xs i).f1) ∧ w.cell? ⟨(ad.add (i.toNat * 4)).block, (ad.add (i.toNat * 4)).off + 2, none⟩ = some (.int .i64 (rd_T40 xs i).f2) ∧ w.cell? ⟨(ad.add (i.toNat * 4)).block, (ad.add (i.toNat * 4)).off + 3, none⟩ = some (.string (rd_T40 xs i).f3) := by
 obtain ⟨ad, c, e, _, hK, hc0⟩ := Kd.C_get h z40 i h0 h1
 have hc : ∀ j u, c[j]? = some u → w.cell? (ad.add (i.toNat * 4 + j)) = some u := hc0
 obtain rfl := k40_open hK
 exact ⟨ad, e, hc 0 _ rfl, by rw [← add_field _ _ 1 (by omega)]; exact hc 1 _ rfl, by rw [← add_field _ _ 2 (by omega)]; exact hc 2 _ rfl, by rw [← add_field _ _ 3 (by omega)]; exact hc 3 _ rfl⟩
structure S46 where
 f0 : Int
 f1 : Int
def z46 : S46 := ⟨(0 : Int), (0 : Int)⟩
def k46 : Kd S46 := Kd.iso (Kd.pair (Kd.int .i64) (Kd.int .i64)) (fun x : S46 => (x.f0, x.f1))
theorem k46_open {w : World} {x : S46} {cs : List Value} (h : k46.K w x cs) : cs = [.int .i64 x.f0, .int .i64 x.f1] := by
 obtain ⟨_, _, rfl, rfl, rfl⟩ := h
 exact rfl
theorem k46_openM {w : World} {base : Nat} {ok : Nat → Prop} {x : S46} {cs : List Value} (h : k46.M w base ok x cs) : cs = [.int .i64 x.f0, .int .i64 x.f1] := by
 obtain ⟨_, _, rfl, rfl, rfl⟩ := h
 exact rfl
theorem k46_mkM (w : World) (base : Nat) (ok : Nat → Prop) (x : S46)  : k46.M w base ok x [.int .i64 x.f0, .int .i64 x.f1] := ⟨[.int .i64 x.f0], [.int .i64 x.f1], rfl, rfl, rfl⟩
structure S50 where
 f0 : S46
 f1 : S46
 f2 : Int
 f3 : (List Int)
 f4 : (List (List Int))
def z50 : S50 := ⟨z46, z46, (0 : Int), ([] : List Int), ([] : List (List Int))⟩
def k50 : Kd S50 := Kd.iso (Kd.pair k46 (Kd.pair k46 (Kd.pair (Kd.int .i64) (Kd.pair (Kd.slice 3 (Kd.int .i64)) (Kd.slice 47 (Kd.slice 3 (Kd.int .i64))))))) (fun x : S50 => (x.f0, x.f1, x.f2, x.f3, x.f4))
theorem k50_open {w : World} {x : S50} {cs : List Value} (h : k50.K w x cs) : ∃ A5 c5 A6 c6, cs = [.int .i64 x.f0.f0, .int .i64 x.f0.f1, .int .i64 x.f1.f0, .int .i64 x.f1.f1, .int .i64 x.f2, .slice A5 x.f3.length c5, .slice A6 x.f4.length c6] ∧ x.f3.length ≤ c5 ∧ (Kd.int .i64).C w A5 x.f3.length x.f3 ∧ x.f4.length ≤ c6 ∧ (Kd.slice 3 (Kd.int .i64)).C w A6 x.f4.length x.f4 := by
 obtain ⟨_, _, rfl, s0, ⟨_, _, rfl, s2, ⟨_, _, rfl, rfl, ⟨_, _, rfl, ⟨A5, c5, rfl, l5, g5⟩, ⟨A6, c6, rfl, l6, g6⟩⟩⟩⟩⟩ := h
 obtain rfl := k46_open s0
 obtain rfl := k46_open s2
 exact ⟨A5, c5, A6, c6, rfl, l5, g5, l6, g6⟩
theorem k50_openM {w : World} {base : Nat} {ok : Nat → Prop} {x : S50} {cs : List Value} (h : k50.M w base ok x cs) : ∃ v5 v6, cs = [.int .i64 x.f0.f0, .int .i64 x.f0.f1, .int .i64 x.f1.f0, .int .i64 x.f1.f1, .int .i64 x.f2, v5, v6] ∧ (Kd.int .i64).R 3 w base ok v5 x.f3 ∧ (Kd.slice 3 (Kd.int .i64)).R 47 w base ok v6 x.f4 := by
 obtain ⟨_, _, rfl, s0, ⟨_, _, rfl, s2, ⟨_, _, rfl, rfl, ⟨_, _, rfl, ⟨v5, rfl, g5⟩, ⟨v6, rfl, g6⟩⟩⟩⟩⟩ := h
 obtain rfl := k46_openM s0
 obtain rfl := k46_openM s2
 exact ⟨v5, v6, rfl, g5, g6⟩
theorem k50_mkM (w : World) (base : Nat) (ok : Nat → Prop) (x : S50) {v5 : Value} (g5 : (Kd.int .i64).R 3 w base ok v5 x.f3) {v6 : Value} (g6 : (Kd.slice 3 (Kd.int .i64)).R 47 w base ok v6 x.f4) : k50.M w base ok x [.int .i64 x.f0.f0, .int .i64 x.f0.f1, .int .i64 x.f1.f0, .int .i64 x.f1.f1, .int .i64 x.f2, v5, v6] := ⟨[.int .i64 x.f0.f0, .int .i64 x.f0.f1], [.int .i64 x.f1.f0, .int .i64 x.f1.f1, .int .i64 x.f2, v5, v6], rfl, (k46_mkM w base ok x.f0 ), ⟨[.int .i64 x.f1.f0, .int .i64 x.f1.f1], [.int .i64 x.f2, v5, v6], rfl, (k46_mkM w base ok x.f1 ), ⟨[.int .i64 x.f2], [v5, v6], rfl, rfl, ⟨[v5], [v6], rfl, ⟨v5, rfl, g5⟩, ⟨v6, rfl, g6⟩⟩⟩⟩⟩
def rd_T50 (xs : List S50) (i : Int) : S50 := xs.getD i.toNat z50
theorem at_T50 {w : World} {A : Option Addr} {n : Nat} {xs : List S50} (h : Kd.C k50 w A n xs) (i : Int) (h0 : 0 ≤ i) (h1 : i < n) : ∃ ad A5 c5 A6 c6, A = some ad ∧ w.cell? (ad.add (i.toNat * 7)) = some (.int .i64 (rd_T50 xs i).f0.f0) ∧ w.cell? ⟨(ad.add (i.toNat * 7)).block, (ad.add (i.toNat * 7)).off + 1, none⟩ = some (.int .i64 (rd_T50 xs i).f0.f1) ∧ w.cell? ⟨(ad.add (i.toNat * 7)).block, (ad.add (i.toNat * 7)).off + 2, none⟩ = some (.int .i64 (rd_T50 xs i).f1.f0) ∧ w.cell? ⟨(ad.add (i.toNat * 7)).block, (ad.add (i.toNat * 7)).off + 3, none⟩ = some (.int .i64 (rd_T50 xs i).f1.f1) ∧ w.cell? ⟨(ad.add (i.toNat * 7)).block, (ad.add (i.toNat * 7)).off + 4, none⟩ = some (.int .i64 (rd_T50 xs i).f2) ∧ w.cell? ⟨(ad.add (i.toNat * 7)).block, (ad.add (i.toNat * 7)).off + 5, none⟩ = some (.slice A5 (rd_T50 xs i).f3.length c5) ∧ w.cell? ⟨(ad.add (i.toNat * 7)).block, (ad.add (i.toNat * 7)).off + 6, none⟩ = some (.slice A6 (rd_T50 xs i).f4.length c6) ∧ (rd_T50 xs i).f3.length ≤ c5 ∧ (Kd.int .i64).C w A5 (rd_T50 xs i).f3.length (rd_T50 xs i).f3 ∧ (rd_T50 xs i).f4.length ≤ c6 ∧ (Kd.slice 3 (Kd.int .i64)).C w A6 (rd_T50 xs i).f4.length (rd_T50 xs i).f4 := by
 obtain ⟨ad, c, e, _, hK, hc0⟩ := Kd.C_get h z50 i h0 h1
 have hc : ∀ j u, c[j]? = some u → w.cell? (ad.add (i.toNat * 7 + j)) = some u := hc0
 obtain ⟨A5, c5, A6, c6, rfl, l5, g5, l6, g6⟩ := k50_open hK
 exact ⟨ad, A5, c5, A6, c6, e, hc 0 _ rfl, by rw [← add_field _ _ 1 (by omega)]; exact hc 1 _ rfl, by rw [← add_field _ _ 2 (by omega)]; exact hc 2 _ rfl, by rw [← add_field _ _ 3 (by omega)]; exact hc 3 _ rfl, by rw [← add_field _ _ 4 (by omega)]; exact hc 4 _ rfl, by rw [← add_field _ _ 5 (by omega)]; exact hc 5 _ rfl, by rw [← add_field _ _ 6 (by omega)]; exact hc 6 _ rfl, l5, g5, l6, g6⟩
structure S43 where
 f0 : Int
 f1 : Int
 f2 : ByteArray
 f3 : S40
 f4 : (List S50)
def z43 : S43 := ⟨(0 : Int), (0 : Int), (⟨#[]⟩ : ByteArray), z40, ([] : List S50)⟩
def k43 : Kd S43 := Kd.iso (Kd.pair (Kd.int .i64) (Kd.pair (Kd.int .i64) (Kd.pair Kd.string (Kd.pair k40 (Kd.slice 50 k50))))) (fun x : S43 => (x.f0, x.f1, x.f2, x.f3, x.f4))
theorem k43_open {w : World} {x : S43} {cs : List Value} (h : k43.K w x cs) : ∃ A7 c7, cs = [.int .i64 x.f0, .int .i64 x.f1, .string x.f2, .int .i64 x.f3.f0, .int .i64 x.f3.f1, .int .i64 x.f3.f2, .string x.f3.f3, .slice A7 x.f4.length c7] ∧ x.f4.length ≤ c7 ∧ k50.C w A7 x.f4.length x.f4 := by
 obtain ⟨_, _, rfl, rfl, ⟨_, _, rfl, rfl, ⟨_, _, rfl, rfl, ⟨_, _, rfl, s3, ⟨A7, c7, rfl, l7, g7⟩⟩⟩⟩⟩ := h
 obtain rfl := k40_open s3
 exact ⟨A7, c7, rfl, l7, g7⟩
theorem k43_openM {w : World} {base : Nat} {ok : Nat → Prop} {x : S43} {cs : List Value} (h : k43.M w base ok x cs) : ∃ v7, cs = [.int .i64 x.f0, .int .i64 x.f1, .string x.f2, .int .i64 x.f3.f0, .int .i64 x.f3.f1, .int .i64 x.f3.f2, .string x.f3.f3, v7] ∧ k50.R 50 w base ok v7 x.f4 := by
 obtain ⟨_, _, rfl, rfl, ⟨_, _, rfl, rfl, ⟨_, _, rfl, rfl, ⟨_, _, rfl, s3, ⟨v7, rfl, g7⟩⟩⟩⟩⟩ := h
 obtain rfl := k40_openM s3
 exact ⟨v7, rfl, g7⟩
theorem k43_mkM (w : World) (base : Nat) (ok : Nat → Prop) (x : S43) {v7 : Value} (g7 : k50.R 50 w base ok v7 x.f4) : k43.M w base ok x [.int .i64 x.f0, .int .i64 x.f1, .string x.f2, .int .i64 x.f3.f0, .int .i64 x.f3.f1, .int .i64 x.f3.f2, .string x.f3.f3, v7] := ⟨[.int .i64 x.f0], [.int .i64 x.f1, .string x.f2, .int .i64 x.f3.f0, .int .i64 x.f3.f1, .int .i64 x.f3.f2, .string x.f3.f3, v7], rfl, rfl, ⟨[.int .i64 x.f1], [.string x.f2, .int .i64 x.f3.f0, .int .i64 x.f3.f1, .int .i64 x.f3.f2, .string x.f3.f3, v7], rfl, rfl, ⟨[.string x.f2], [.int .i64 x.f3.f0, .int .i64 x.f3.f1, .int .i64 x.f3.f2, .string x.f3.f3, v7], rfl, rfl, ⟨[.int .i64 x.f3.f0, .int .i64 x.f3.f1, .int .i64 x.f3.f2, .string x.f3.f3], [v7], rfl, (k40_mkM w base ok x.f3 ), ⟨v7, rfl, g7⟩⟩⟩⟩⟩
def rd_T43 (xs : List S43) (i : Int) : S43 := xs.getD i.toNat z43
theorem at_T43 {w : World} {A : Option Addr} {n : Nat} {xs : List S43} (h : Kd.C k43 w A n xs) (i : Int) (h0 : 0 ≤ i) (h1 : i < n) : ∃ ad A7 c7, A = some ad ∧ w.cell? (ad.add (i.toNat * 8)) = some (.int .i64 (rd_T43 xs i).f0) ∧ w.cell? ⟨(ad.add (i.toNat * 8)).block, (ad.add (i.toNat * 8)).off + 1, none⟩ = some (.int .i64 (rd_T43 xs i).f1) ∧ w.cell? ⟨(ad.add (i.toNat * 8)).block, (ad.add (i.toNat * 8)).off + 2, none⟩ = some (.string (rd_T43 xs i).f2) ∧ w.cell? ⟨(ad.add (i.toNat * 8)).block, (ad.add (i.toNat * 8)).off + 3, none⟩ = some (.int .i64 (rd_T43 xs i).f3.f0) ∧ w.cell? ⟨(ad.add (i.toNat * 8)).block, (ad.add (i.toNat * 8)).off + 4, none⟩ = some (.int .i64 (rd_T43 xs i).f3.f1) ∧ w.cell? ⟨(ad.add (i.toNat * 8)).block, (ad.add (i.toNat * 8)).off + 5, none⟩ = some (.int .i64 (rd_T43 xs i).f3.f2) ∧ w.cell? ⟨(ad.add (i.toNat * 8)).block, (ad.add (i.toNat * 8)).off + 6, none⟩ = some (.string (rd_T43 xs i).f3.f3) ∧ w.cell? ⟨(ad.add (i.toNat * 8)).block, (ad.add (i.toNat * 8)).off + 7, none⟩ = some (.slice A7 (rd_T43 xs i).f4.length c7) ∧ (rd_T43 xs i).f4.length ≤ c7 ∧ k50.C w A7 (rd_T43 xs i).f4.length (rd_T43 xs i).f4 := by
 obtain ⟨ad, c, e, _, hK, hc0⟩ := Kd.C_get h z43 i h0 h1
 have hc : ∀ j u, c[j]? = some u → w.cell? (ad.add (i.toNat * 8 + j)) = some u := hc0
 obtain ⟨A7, c7, rfl, l7, g7⟩ := k43_open hK
 exact ⟨ad, A7, c7, e, hc 0 _ rfl, by rw [← add_field _ _ 1 (by omega)]; exact hc 1 _ rfl, by rw [← add_field _ _ 2 (by omega)]; exact hc 2 _ rfl, by rw [← add_field _ _ 3 (by omega)]; exact hc 3 _ rfl, by rw [← add_field _ _ 4 (by omega)]; exact hc 4 _ rfl, by rw [← add_field _ _ 5 (by omega)]; exact hc 5 _ rfl, by rw [← add_field _ _ 6 (by omega)]; exact hc 6 _ rfl, by rw [← add_field _ _ 7 (by omega)]; exact hc 7 _ rfl, l7, g7⟩
structure S83 where
 f0 : S46
 f1 : S46
 f2 : Int
 f3 : (List Int)
 f4 : (List (List Int))
structure S69 where
 f0 : Int
 f1 : Int
 f2 : ByteArray
 f3 : S40
 f4 : (List S83)
abbrev bA := @below_alloc
abbrev bD := @pw_below_drewN
abbrev b1 := @below_drew1
abbrev rA := @Kd.R_alloc
abbrev rD := @Kd.R_drewN
abbrev r1 := @Kd.R_drew
theorem aM {p : Prop} (h : p) : Aside0 p := ⟨h⟩
theorem bQ {P : Prop} (h : P := by repeat first|(with_reducible first|exact HB.out|apply bA|apply bD|apply b1|refine below_set ?_ (Aside0.out (by assumption)))|exact HB.out) : P := h
theorem sB {w W w1 : World} (hb : Below W.heap.size W w1) (h : Below w.heap.size w W := by exact bQ) : Aside0 (Below w.heap.size w w1) := ⟨below_step h hb⟩
theorem sG (w : World) {W : World} {g : Nat} (hg : g = W.heap.size) (h : Below w.heap.size w W := by exact bQ) : Aside0 (w.heap.size ≤ g) := ⟨by rw [hg]; exact below_size h⟩
section
variable {α β : Type} {d : Kd α} {d' : Kd β} {e e' base base' : Nat} {ok ok' : Nat → Prop} {w W w1 : World} {v u : Value} {xs : List α} {ys : List β}
theorem rK (h : Aside0 (d.R e w base ok v xs)) (hb : Below W.heap.size W w1) (c : d.R e w base ok v xs → d.R e W base ok v xs := by intro h; (with_reducible repeat first|apply rA|apply rD|apply r1); exact h) : Aside0 (d.R e w1 base ok v xs) := ⟨Kd.R_below (c h.out) hb⟩
theorem mQ (h : Aside0 (d.R e w base ok v xs)) (c : d.R e w base ok v xs → d.R e W base ok v xs := by intro h; (with_reducible repeat first|apply rA|apply rD|apply r1); exact h) : d.R e W base ok v xs := c h.out
theorem eK (h : Aside0 (d.R e w base ok v xs)) (h0 : d'.R e' w1 W.heap.size ok' u ys) (hb : Below W.heap.size W w1) (c : d.R e w base ok v xs → d.R e W base ok v xs := by intro h; (with_reducible repeat first|apply rA|apply rD|apply r1); exact h) : Aside0 (d.R e w1 base (fun k => ok k ∧ some k ≠ u.ownBlock) v xs) := ⟨Kd.R_elder' (c h.out) (Kd.R_base h0) hb⟩
theorem lK (h : d.R e w1 W.heap.size ok v xs) (b : Below w.heap.size w W := by exact bQ) : Aside0 (d.R e w1 w.heap.size ok v xs) := ⟨Kd.R_lower h (below_size b)⟩
theorem nK {w0 : World} (h : d.R e w1 W.heap.size ok v xs) (h0 : Aside0 (d'.R e' w base' ok' u ys)) (c : d'.R e' w base' ok' u ys → d'.R e' W base' ok' u ys := by intro h; (with_reducible repeat first|apply rA|apply rD|apply r1); exact h) (b : Below w0.heap.size w0 W := by exact bQ) : Aside0 (d.R e w1 w0.heap.size (fun k => ok k ∧ some k ≠ u.ownBlock) v xs) := ⟨Kd.R_lower (Kd.R_new' h (Kd.R_lt (c h0.out))) (below_size b)⟩
theorem cQ {P : Prop} {A : Option Addr} {n c : Nat} (h : Aside0 (d.R e w base ok (.slice A n c) xs)) (p : d.C w A xs.length xs → P := by intro h; repeat (first | exact h | (with_reducible first|refine Kd.C_alloc ?_ _|refine Kd.C_drewN ?_ _|refine Kd.C_drew ?_))) : P := p (Kd.R_reads' h.out).2.2
end
section
variable {w W w1 : World} {g : Nat} {o : Obj}
theorem kK (h : Aside0 (w.heap[g]? = some o)) (hb : Below W.heap.size W w1) (c : w.heap[g]? = some o → W.heap[g]? = some o := by intro h; (with_reducible repeat (first | refine blk_drewN ?_ _ | refine blk_drew ?_ | refine blk_alloc ?_ _)); exact h) : Aside0 (w1.heap[g]? = some o) := ⟨blk_below (c h.out) hb⟩
theorem blk_is {o' : Obj} (h : w.heap[g]? = some o') (e : o' = o) : w.heap[g]? = some o := e ▸ h
theorem b4 {t : TypeId} {a b c d : Value} (h : Aside0 (w.heap[g]? = some (.cells #[a, b, c, d] t (0, 0)))) : w.cell? ⟨g, 0, none⟩ = some a ∧ w.cell? ⟨g, 1, none⟩ = some b ∧ w.cell? ⟨g, 2, none⟩ = some c ∧ w.cell? ⟨g, 3, none⟩ = some d ∧ w.frozen? ⟨g, 0, none⟩ = false ∧ w.frozen? ⟨g, 1, none⟩ = false ∧ w.frozen? ⟨g, 2, none⟩ = false ∧ w.frozen? ⟨g, 3, none⟩ = false := ⟨blk_cell h.out 0, blk_cell h.out 1, blk_cell h.out 2, blk_cell h.out 3, blk_frozen h.out 0, blk_frozen h.out 1, blk_frozen h.out 2, blk_frozen h.out 3⟩
end
theorem blk_far2 {w : World} {g g' i : Nat} {t : TypeId} {cs : Array Value} {u : Value} (h : w.heap[g]? = some (.cells cs t (0, 0))) (hp : Aside0 (g ≠ g')) : (w.setCell ⟨g', i, none⟩ u).heap[g]? = some (.cells cs t (0, 0)) := blk_far h hp.out u
theorem kQ {P : Prop} (h : P := by apply blk_is; (with_reducible repeat first | exact Aside0.out (by assumption) | assumption | apply blk_drewN | apply blk_drew | apply blk_alloc | apply blk_set | apply blk_far2); rfl) : P := h
section
variable {P : Program} {ops : Array Oper} {rest : List Oper} {oi : Oper} {a : Act} {Q : Exit → Act → World → Prop} {W : World}
theorem gC (f : FuncId) {xs : Array Operand} {ts : Array TypeId} (h : wpList P ops Q (oi :: rest) a W) (_ho : oi.op = .call { callee := .value (.func f), args := xs, argTypes := ts } := by exact rfl) : wpList P ops Q (oi :: rest) a W := h
theorem gD (N : Tmp) (h : wpList P ops Q (oi :: rest) a W) (_hN : oi.dst = some N := by exact rfl) : wpList P ops Q (oi :: rest) a W := h
theorem gL (N : Option Tmp) {f : FuncId} {fn : Func} {xs : Array Operand} {ts : Array TypeId} (hf : P.funcs[f]? = some fn) (args : Array Value) (h : Calls P f args W fun e w' => ∃ v, e = .returned v ∧ wpList P ops Q rest (a.put N v) w')
 (hd : oi.dst = N := by exact rfl) (hg : oi.guard = none := by exact rfl) (hname : (fn.name == "runtime.NumGoroutine") = false := by kernel_rfl) (hb : fn.body.isSome = true := by exact rfl) (hop : oi.op = .call { callee := .value (.func f), args := xs, argTypes := ts } := by exact rfl)
 (hargs : xs.map a.eval = args := by (try simp only [List.map_toArray, List.map_cons, List.map_nil]); first | done | rfl | (simp only [List.length_drop, List.length_take]; rfl)) : wpList P ops Q (oi :: rest) a W := goesL_ N hd hg hf hname hb args hop hargs h
theorem bE (N : Tmp) {cs : Array Value} {t : TypeId} (h : ∀ g, g = W.heap.size → ∀ w1, w1.heap[g]? = some (.cells cs t (0, 0)) → Below W.heap.size W w1 → wpList P ops Q rest (a.put oi.dst (.pointer (some ⟨g, 0, none⟩))) w1) (hgd : oi.guard = none := by exact rfl) (hd : oi.dst = some N := by exact rfl)
 (hrun : (execOp a.eval oi).run P W = .ok (.value (.pointer (some ⟨W.heap.size, 0, none⟩))) (W.alloc (.cells cs t (0, 0))) := by first | (go_simp; done) | (go_simp; rfl)) : wpList P ops Q (oi :: rest) a W := box_event hgd hd hrun h
end
theorem cB {P : Program} {f : FuncId} {args : Array Value} {w : World} {v : Value} {K : Value → World → Prop} (h : Calls P f args w fun e w' => e = .returned v ∧ Below w.heap.size w w') (k : ∀ w', Below w.heap.size w w' → K v w') : Calls P f args w fun e w' => ∃ v, e = .returned v ∧ K v w' := h.mono (by rintro e w' ⟨rfl, hb⟩; exact ⟨_, rfl, k _ hb⟩)
theorem vQ {P : Prop} (h : P := by first|rfl|(simp;done)|(simp [*];done)) : P := h
theorem hQ {P : Prop} (h : P := by first|with_reducible assumption|assumption) : P := h
theorem eQ {P : Prop} (h : P := by first | rfl | (simp [errW_none, errW_some] <;> rfl) | (simp [*, errW_none, errW_some] <;> rfl)) : P := h
theorem bS {α β : Type} {o : Option α} {f : α → Option β} {r : β} (h : o.bind f = some r) : ∃ x, Aside0 (o = some x) ∧ f x = some r := by
 obtain ⟨x, h1, h2⟩ := Option.bind_eq_some_iff.mp h
 exact ⟨x, ⟨h1⟩, h2⟩
section
variable {α : Type} {p : Prop} {_ : Decidable p} {x y z : α} {G : Prop}
theorem iD (H : (if p then x else y) = z) (h1 : x = z → decide p = true → G) (h2 : y = z → decide p = false → G) : G := by
 by_cases c : p
 ·exact h1 ((if_pos c).symm.trans H) (decide_eq_true c)
 ·exact h2 ((if_neg c).symm.trans H) (decide_eq_false c)
theorem iNc (H : (if p then x else y) = z) (h1 : x = z → p → G) (h2 : y = z → ¬ p → G) : G := by
 by_cases c : p
 ·exact h1 ((if_pos c).symm.trans H) c
 ·exact h2 ((if_neg c).symm.trans H) c
theorem iDc (H : (if p then x else y) = z) (h1 : x = z → decide p = true → p → G) (h2 : y = z → decide p = false → ¬ p → G) : G := by
 by_cases c : p
 ·exact h1 ((if_pos c).symm.trans H) (decide_eq_true c) c
 ·exact h2 ((if_neg c).symm.trans H) (decide_eq_false c) c
theorem iEc {β : Type} [BEq β] [LawfulBEq β] {a b : β} {_ : Decidable (a = b)} (H : (if a = b then x else y) = z) (h1 : x = z → (a == b) = true → (a != b) = false → a = b → G) (h2 : y = z → (a == b) = false → (a != b) = true → ¬ a = b → G) : G := by
 by_cases c : a = b
 ·exact h1 ((if_pos c).symm.trans H) (beq_iff_eq.mpr c) (bne_eq_false_iff_eq.mpr c) c
 ·exact h2 ((if_neg c).symm.trans H) (beq_eq_false_iff_ne.mpr c) (bne_iff_ne.mpr c) c
end
end Go.Proofs.YtjplnhdplpiogaaGreatDoor.M
end
section
namespace Go.Proofs.YtjplnhdplpiogaaGreatDoor.M
open Go.RowKit Go.Proofs.YtjplnhdplpiogaaGreatDoorW.PrintWords
set_option linter.unusedVariables false
theorem tab_below {P : Program} {n : String} {g : Nat} {k : IntKind} {zs : List Int} {w w' : World} (hg : P.globalNamed n = some g) (h : Lib.TabIs P w n k zs) (hb : Below w.heap.size w w') : Lib.TabIs P w' n k zs := by
 unfold Lib.TabIs World.var? at h ⊢
 rw [hg] at h ⊢
 simp only [Option.bind_some] at h ⊢
 have hlt : g < w.heap.size := by
  rcases Nat.lt_or_ge g w.heap.size with h' | h'
  ·exact h'
  ·rw [Array.getElem?_eq_none h'] at h; cases h
 rw [hb.block g hlt]
 exact h
/-- strconv.ErrRange holds a pointer to an errors.errorString; internal/bytealg.MaxLen holds some int. -/
structure GW (w : World) : Prop where
 range : ∃ a, w.cell? ⟨0, 0, none⟩ = some (.iface 208 (.pointer (some a)))
 syn : ∃ a, w.cell? ⟨2, 0, none⟩ = some (.iface 208 (.pointer (some a)))
 max : ∃ m : Int, w.cell? ⟨1, 0, none⟩ = some (.int .i64 m)
 pow : Lib.TabIs Tryz.prog w "internal/strconv.uint64pow10" .u64 Lib.pow10Tab
theorem GW.below {w w1 : World} (hb : Below w.heap.size w w1) (h : GW w) : GW w1 where
 range := h.range.imp fun _ e => pw_cell_below hb e
 syn := h.syn.imp fun _ e => pw_cell_below hb e
 max := h.max.imp fun _ e => pw_cell_below hb e
 pow := tab_below (g := 5) (by kernel_rfl) h.pow hb
theorem gQ {w W : World} (hg : GW w) (h : Below w.heap.size w W := by exact bQ) : GW W := GW.below h hg
end Go.Proofs.YtjplnhdplpiogaaGreatDoor.M
end
section
namespace Go.Proofs.YtjplnhdplpiogaaGreatDoor.M
open Go.RowKit Go.Proofs.YtjplnhdplpiogaaGreatDoorW.PrintWords Go.Proofs.YtjplnhdplpiogaaGreatDoorW.PrintLast Go.Proofs.YtjplnhdplpiogaaGreatDoorW.PrintMore
set_option linter.unusedVariables false
set_option linter.unusedSimpArgs false
/-- An error as a panic's chain. -/
def wrongE (at' e : Int) (r : Bool) : PanicEntry := { v := .iface 60 (.agg #[.int .i64 at', .int .i64 e]), recovered := r }
theorem fail_calls (a e : Int) (w : World) : Calls Tryz.prog 33 #[.int .i64 a, .int .i64 e] w fun x w' => x = .panicked [wrongE a e false] ∧ Below w.heap.size w w' := by
 have hu60 := Tryz.underlying60
 go_enter Tryz.func33, Tryz.ntmps33
 go_wp2
 refine ⟨rfl, rfl, ?_⟩
 repeat first | exact Below.refl _ _ | apply below_alloc | apply pw_below_drewN | apply below_drew1
/-- A token, as cells. -/
abbrev tok4 (t : S40) : Array Value := #[.int .i64 t.f0, .int .i64 t.f1, .int .i64 t.f2, .string t.f3]
/-- The parser's block. -/
structure St (w0 w : World) (g : Nat) (A : Option Addr) (c : Nat) (L : List S40) (i e : Int) (ov iv : Value) : Prop where
 below : Below w0.heap.size w0 w
 ge : w0.heap.size ≤ g
 blk : w.heap[g]? = some (.cells #[.slice A L.length c, .int .i64 i, .int .i64 e, ov, iv] 58 (0, 0))
theorem b5 {w : World} {g : Nat} {t : TypeId} {a b c d e : Value} (h : w.heap[g]? = some (.cells #[a, b, c, d, e] t (0, 0))) : w.cell? ⟨g, 0, none⟩ = some a ∧ w.cell? ⟨g, 1, none⟩ = some b ∧ w.cell? ⟨g, 2, none⟩ = some c ∧ w.cell? ⟨g, 3, none⟩ = some d ∧ w.cell? ⟨g, 4, none⟩ = some e ∧ w.frozen? ⟨g, 0, none⟩ = false ∧ w.frozen? ⟨g, 1, none⟩ = false ∧ w.frozen? ⟨g, 2, none⟩ = false ∧ w.frozen? ⟨g, 3, none⟩ = false ∧ w.frozen? ⟨g, 4, none⟩ = false := ⟨blk_cell h 0, blk_cell h 1, blk_cell h 2, blk_cell h 3, blk_cell h 4, blk_frozen h 0, blk_frozen h 1, blk_frozen h 2, blk_frozen h 3, blk_frozen h 4⟩
theorem al_cell {w1 : World} (o : Obj) {a : Addr} {v : Value} (h : w1.cell? a = some v) (n : Nat) : ((w1.drewN n).alloc o).cell? a = some v := (World.cell?_alloc_lt (w1.drewN n) o a (World.block_lt_of_cell? _ _ h)).trans h
theorem al_new (w1 : World) (cs : Array Value) (t : TypeId) (k : Nat) {v : Value} (h : cs[k]? = some v) (n : Nat) : ((w1.drewN n).alloc (.cells cs t)).cell? ⟨w1.heap.size, k, none⟩ = some v := (blk_cell (blk_new (w1.drewN n) (.cells cs t)) k).trans h
theorem al_fz (w1 : World) (cs : Array Value) (t : TypeId) (k : Nat) (n : Nat) : ((w1.drewN n).alloc (.cells cs t)).frozen? ⟨w1.heap.size, k, none⟩ = false := blk_frozen (blk_new (w1.drewN n) (.cells cs t)) k
theorem norm_w {G : World → Prop} {W : World} (F : World → Prop) (hF : F W) (h : ∀ W', F W' → G W') : G W := h W hF
theorem blk_newN (w : World) (n : Nat) (o : Obj) : ((w.drewN n).alloc o).heap[w.heap.size]? = some o := blk_new _ _
theorem kQ3 {P : Prop} (h : P := by apply blk_is; (with_reducible repeat first | exact Aside0.out (by assumption) | assumption | exact blk_newN _ _ _ | apply blk_drewN | apply blk_drew | apply blk_alloc | apply blk_set | apply blk_far2); rfl) : P := h
theorem kpQ {P : Prop} (h : P := by repeat first | (with_reducible first | exact HK.out | apply KeepBut.set_ | apply keep_drewN | apply keep_drew | apply keep_alloc | refine keep_far ?_ (Aside0.out (by assumption)) _) | exact HK.out) : P := h
abbrev zT : Array Value := #[.int .i64 0, .int .i64 0, .int .i64 0, .string (⟨#[]⟩ : ByteArray)]
def peekF (L : List S40) (i e : Int) : S40 := if i < L.length then rd_T40 L i else ⟨0, e, 0, ⟨#[]⟩⟩
section
variable {w0 w : World} {g : Nat} {A : Option Addr} {c : Nat} {L : List S40} {i e : Int} {ov iv : Value}
theorem peek_end (hS : St w0 w g A c L i e ov iv) (hn : ¬ i < L.length) :
  Calls Tryz.prog 83 #[.pointer (some ⟨g, 0, none⟩)] w fun x w' => x = .returned (.agg #[.int .i64 0, .int .i64 e, .int .i64 0, .string ⟨#[]⟩]) ∧ Below w.heap.size w w' := by
 have hu40 := Tryz.underlying40
 have hu58 := Tryz.underlying58
 have hc : decide (i < (L.length : Int)) = false := decide_eq_false hn
 have hc2 : decide ((L.length : Int) ≤ i) = true := decide_eq_true (by omega)
 have HS := Aside0.mk hS
 clear hS
 have HB := Aside0.mk (Below.refl w.heap.size w)
 go_enter Tryz.func83, Tryz.ntmps83
 go_wp2_with (first | ((with_reducible refine gD 2 ?_); refine bE 2 (cs := #[.int .i64 0, .int .i64 0, .int .i64 0, .string (⟨#[]⟩ : ByteArray)]) (t := 40) ?_; intro gb hg w1 hbox hb; have BK := aM hbox; have BG := aM (blk_below HS.out.blk hb); have hne := aM (show g ≠ gb by rw [hg]; exact Nat.ne_of_lt (blk_lt HS.out.blk)); have GE := sG w hg; replace HB := aM hb; clear hb hbox hg; obtain ⟨h1, h2, h3, h4, h5, f1, f2, f3, f4, f5⟩ := b5 BG.out; obtain ⟨k1, k2, k3, k4, m1, m2, m3, m4⟩ := b4 BK; have hq := hne.out; have hq' := Ne.symm hne.out))
 go_quiet (fail)
 try go_wp2_with (fail)
 refine bodyPost_ret (results_cell_row rfl _ _ gb 40 #[.int .i64 0, .int .i64 e, .int .i64 0, .string (⟨#[]⟩ : ByteArray)] (0, 0) _ rfl kQ Tryz.underlying40 rfl (by kernel_rfl)) rfl ?_
 exact ⟨rfl, bQ⟩
theorem peek_some (hC : Kd.C k40 w0 A L.length L) (hS : St w0 w g A c L i e ov iv) (h0 : 0 ≤ i) (hn : i < L.length) :
  Calls Tryz.prog 83 #[.pointer (some ⟨g, 0, none⟩)] w fun x w' => x = .returned (.agg (tok4 (rd_T40 L i))) ∧ Below w.heap.size w w' := by
 have hu40 := Tryz.underlying40
 have hu58 := Tryz.underlying58
 have hc : decide (i < (L.length : Int)) = true := decide_eq_true hn
 have hc2 : decide ((L.length : Int) ≤ i) = false := decide_eq_false (by omega)
 obtain ⟨ad, rfl, x0, x1, x2, x3⟩ := at_T40 (Kd.C_below hC hS.below) i h0 hn
 have HS := Aside0.mk hS
 clear hS
 have HB := Aside0.mk (Below.refl w.heap.size w)
 go_enter Tryz.func83, Tryz.ntmps83
 go_wp2_with (first | ((with_reducible refine gD 2 ?_); refine bE 2 (cs := #[.int .i64 0, .int .i64 0, .int .i64 0, .string (⟨#[]⟩ : ByteArray)]) (t := 40) ?_; intro gb hg w1 hbox hb; have BK := aM hbox; have BG := aM (blk_below HS.out.blk hb); have hne := aM (show g ≠ gb by rw [hg]; exact Nat.ne_of_lt (blk_lt HS.out.blk)); have GE := sG w hg; replace HB := aM hb; replace x0 := pw_cell_below hb x0; replace x1 := pw_cell_below hb x1; replace x2 := pw_cell_below hb x2; replace x3 := pw_cell_below hb x3; clear hb hbox hg; obtain ⟨h1, h2, h3, h4, h5, f1, f2, f3, f4, f5⟩ := b5 BG.out; obtain ⟨k1, k2, k3, k4, m1, m2, m3, m4⟩ := b4 BK; have hq := hne.out; have hq' := Ne.symm hne.out))
 go_quiet (fail)
 try go_wp2_with (fail)
 have p9 := eq_true h0
 have q9 := eq_true hn
 go_region
 try go_wp2_with (fail)
 refine bodyPost_ret (results_cell_row rfl _ _ gb 40 (tok4 (rd_T40 L i)) (0, 0) _ rfl kQ Tryz.underlying40 rfl (by kernel_rfl)) rfl ?_
 exact ⟨rfl, bQ⟩
theorem take_short (hS : St w0 w g A c L i e ov iv) (hn : ¬ i < L.length) (kind : Int) :
  Calls Tryz.prog 148 #[.pointer (some ⟨g, 0, none⟩), .int .i64 kind] w fun x w' => x = .panicked [wrongE e 2 false] ∧ Below w.heap.size w w' := by
 have hu40 := Tryz.underlying40
 have hu58 := Tryz.underlying58
 have hc : decide (i < (L.length : Int)) = false := decide_eq_false hn
 have hc2 : decide ((L.length : Int) ≤ i) = true := decide_eq_true (by omega)
 have HS := Aside0.mk hS
 clear hS
 have HB := Aside0.mk (Below.refl w.heap.size w)
 go_enter Tryz.func148, Tryz.ntmps148
 go_wp2_with (first | (go_at_call 33; refine (fail_calls _ _ _).mono ?_; rintro x w9 ⟨rfl, hb⟩; replace HB := sB hb; clear hb) | ((with_reducible refine gD 4 ?_); refine bE 4 (cs := #[.int .i64 0, .int .i64 0, .int .i64 0, .string (⟨#[]⟩ : ByteArray)]) (t := 40) ?_; intro gb hg w1 hbox hb; have BK := aM hbox; have BG := aM (blk_below HS.out.blk hb); have hne := aM (show g ≠ gb by rw [hg]; exact Nat.ne_of_lt (blk_lt HS.out.blk)); have hne' := aM (Ne.symm hne.out); have GE := sG w hg; replace HB := aM hb; clear hb hbox hg; obtain ⟨h1, h2, h3, h4, h5, f1, f2, f3, f4, f5⟩ := b5 BG.out; obtain ⟨k1, k2, k3, k4, m1, m2, m3, m4⟩ := b4 BK; have hq := hne.out; have hq' := hne'.out))
 go_quiet (fail)
 try go_wp2_with (first | (go_at_call 33; refine (fail_calls _ _ _).mono ?_; rintro x w9 ⟨rfl, hb⟩; replace HB := sB hb; clear hb))
 exact ⟨rfl, rfl, bQ⟩
theorem take_form (hC : Kd.C k40 w0 A L.length L) (hS : St w0 w g A c L i e ov iv) (h0 : 0 ≤ i) (hn : i < L.length) (kind : Int) (hk : (rd_T40 L i).f0 ≠ kind) :
  Calls Tryz.prog 148 #[.pointer (some ⟨g, 0, none⟩), .int .i64 kind] w fun x w' => x = .panicked [wrongE (rd_T40 L i).f1 3 false] ∧ Below w.heap.size w w' := by
 have hu40 := Tryz.underlying40
 have hu58 := Tryz.underlying58
 have hc : decide (i < (L.length : Int)) = true := decide_eq_true hn
 have hc2 : decide ((L.length : Int) ≤ i) = false := decide_eq_false (by omega)
 have hk1 : ((rd_T40 L i).f0 == kind) = false := beq_eq_false_iff_ne.mpr hk
 have hk2 : ((rd_T40 L i).f0 != kind) = true := bne_iff_ne.mpr hk
 obtain ⟨ad, rfl, x0, x1, x2, x3⟩ := at_T40 (Kd.C_below hC hS.below) i h0 hn
 have HS := Aside0.mk hS
 clear hS
 have HB := Aside0.mk (Below.refl w.heap.size w)
 go_enter Tryz.func148, Tryz.ntmps148
 go_wp2_with (first | (go_at_call 33; refine (fail_calls _ _ _).mono ?_; rintro x w9 ⟨rfl, hb⟩; replace HB := sB hb; clear hb) | ((with_reducible refine gD 4 ?_); refine bE 4 (cs := #[.int .i64 0, .int .i64 0, .int .i64 0, .string (⟨#[]⟩ : ByteArray)]) (t := 40) ?_; intro gb hg w1 hbox hb; have BK := aM hbox; have BG := aM (blk_below HS.out.blk hb); have hne := aM (show g ≠ gb by rw [hg]; exact Nat.ne_of_lt (blk_lt HS.out.blk)); have hne' := aM (Ne.symm hne.out); have GE := sG w hg; replace HB := aM hb; replace x0 := pw_cell_below hb x0; replace x1 := pw_cell_below hb x1; replace x2 := pw_cell_below hb x2; replace x3 := pw_cell_below hb x3; clear hb hbox hg; obtain ⟨h1, h2, h3, h4, h5, f1, f2, f3, f4, f5⟩ := b5 BG.out; obtain ⟨k1, k2, k3, k4, m1, m2, m3, m4⟩ := b4 BK; have hq := hne.out; have hq' := hne'.out))
 go_quiet (fail)
 try go_wp2_with (fail)
 have p9 := eq_true h0
 have q9 := eq_true hn
 have a1 := al_cell (.cells #[.int .i64 0, .int .i64 0, .int .i64 0, .string (⟨#[]⟩ : ByteArray)] 40) h1
 have a2 := al_cell (.cells #[.int .i64 0, .int .i64 0, .int .i64 0, .string (⟨#[]⟩ : ByteArray)] 40) h2
 have y0 := al_cell (.cells #[.int .i64 0, .int .i64 0, .int .i64 0, .string (⟨#[]⟩ : ByteArray)] 40) x0
 have y1 := al_cell (.cells #[.int .i64 0, .int .i64 0, .int .i64 0, .string (⟨#[]⟩ : ByteArray)] 40) x1
 have y2 := al_cell (.cells #[.int .i64 0, .int .i64 0, .int .i64 0, .string (⟨#[]⟩ : ByteArray)] 40) x2
 have y3 := al_cell (.cells #[.int .i64 0, .int .i64 0, .int .i64 0, .string (⟨#[]⟩ : ByteArray)] 40) x3
 have n0 := al_new w1 #[.int .i64 0, .int .i64 0, .int .i64 0, .string (⟨#[]⟩ : ByteArray)] 40 0 rfl
 have n1 := al_new w1 #[.int .i64 0, .int .i64 0, .int .i64 0, .string (⟨#[]⟩ : ByteArray)] 40 1 rfl
 have n2 := al_new w1 #[.int .i64 0, .int .i64 0, .int .i64 0, .string (⟨#[]⟩ : ByteArray)] 40 2 rfl
 have n3 := al_new w1 #[.int .i64 0, .int .i64 0, .int .i64 0, .string (⟨#[]⟩ : ByteArray)] 40 3 rfl
 have z0 := al_fz w1 #[.int .i64 0, .int .i64 0, .int .i64 0, .string (⟨#[]⟩ : ByteArray)] 40
 have GE1 := aM (below_size HB.out)
 go_region
 go_wp2_with (first | (go_at_call 33; refine (fail_calls _ _ _).mono ?_; rintro x w9 ⟨rfl, hb⟩; replace HB := sB hb; clear hb))
 exact ⟨rfl, rfl, bQ⟩
theorem take_ok (hC : Kd.C k40 w0 A L.length L) (hS : St w0 w g A c L i e ov iv) (h0 : 0 ≤ i) (hn : i < L.length) (kind : Int) (hk : kind = (rd_T40 L i).f0) :
  Calls Tryz.prog 148 #[.pointer (some ⟨g, 0, none⟩), .int .i64 kind] w fun x w' => x = .returned (.agg (tok4 (rd_T40 L i))) ∧ St w0 w' g A c L (i + 1) e ov iv ∧ KeepBut w w' g none := by
 have hu40 := Tryz.underlying40
 have hu58 := Tryz.underlying58
 have hc : decide (i < (L.length : Int)) = true := decide_eq_true hn
 have hc2 : decide ((L.length : Int) ≤ i) = false := decide_eq_false (by omega)
 subst hk
 have hL : (L.length : Int) ≤ 9223372036854775807 := by have := Kd.C_max hC; omega
 have hw : wrap64 (i + 1) = i + 1 := by unfold wrap64; omega
 obtain ⟨ad, rfl, x0, x1, x2, x3⟩ := at_T40 (Kd.C_below hC hS.below) i h0 hn
 have HS := Aside0.mk hS
 clear hS
 have HB := Aside0.mk (Below.refl w.heap.size w)
 go_enter Tryz.func148, Tryz.ntmps148
 go_wp2_with (first | ((with_reducible refine gD 4 ?_); refine bE 4 (cs := #[.int .i64 0, .int .i64 0, .int .i64 0, .string (⟨#[]⟩ : ByteArray)]) (t := 40) ?_; intro gb hg w1 hbox hb; have BK := aM hbox; have BG := aM (blk_below HS.out.blk hb); have hne := aM (show g ≠ gb by rw [hg]; exact Nat.ne_of_lt (blk_lt HS.out.blk)); have hne' := aM (Ne.symm hne.out); have GE := sG w hg; replace HB := aM hb; replace x0 := pw_cell_below hb x0; replace x1 := pw_cell_below hb x1; replace x2 := pw_cell_below hb x2; replace x3 := pw_cell_below hb x3; clear hb hbox hg; obtain ⟨h1, h2, h3, h4, h5, f1, f2, f3, f4, f5⟩ := b5 BG.out; obtain ⟨k1, k2, k3, k4, m1, m2, m3, m4⟩ := b4 BK; have hq := hne.out; have hq' := hne'.out))
 go_quiet (fail)
 try go_wp2_with (fail)
 have p9 := eq_true h0
 have q9 := eq_true hn
 have a1 := al_cell (.cells #[.int .i64 0, .int .i64 0, .int .i64 0, .string (⟨#[]⟩ : ByteArray)] 40) h1
 have a2 := al_cell (.cells #[.int .i64 0, .int .i64 0, .int .i64 0, .string (⟨#[]⟩ : ByteArray)] 40) h2
 have y0 := al_cell (.cells #[.int .i64 0, .int .i64 0, .int .i64 0, .string (⟨#[]⟩ : ByteArray)] 40) x0
 have y1 := al_cell (.cells #[.int .i64 0, .int .i64 0, .int .i64 0, .string (⟨#[]⟩ : ByteArray)] 40) x1
 have y2 := al_cell (.cells #[.int .i64 0, .int .i64 0, .int .i64 0, .string (⟨#[]⟩ : ByteArray)] 40) x2
 have y3 := al_cell (.cells #[.int .i64 0, .int .i64 0, .int .i64 0, .string (⟨#[]⟩ : ByteArray)] 40) x3
 have n0 := al_new w1 #[.int .i64 0, .int .i64 0, .int .i64 0, .string (⟨#[]⟩ : ByteArray)] 40 0 rfl
 have n1 := al_new w1 #[.int .i64 0, .int .i64 0, .int .i64 0, .string (⟨#[]⟩ : ByteArray)] 40 1 rfl
 have n2 := al_new w1 #[.int .i64 0, .int .i64 0, .int .i64 0, .string (⟨#[]⟩ : ByteArray)] 40 2 rfl
 have n3 := al_new w1 #[.int .i64 0, .int .i64 0, .int .i64 0, .string (⟨#[]⟩ : ByteArray)] 40 3 rfl
 have z0 := al_fz w1 #[.int .i64 0, .int .i64 0, .int .i64 0, .string (⟨#[]⟩ : ByteArray)] 40
 have GE1 := aM (below_size HB.out)
 have hne1 := aM (Nat.ne_of_lt (blk_lt BG.out))
 have hne2 := aM (Nat.ne_of_lt (blk_lt BK.out))
 go_region
 refine norm_w (F := fun W => W.heap[g]? = some (.cells #[.slice (some ad) L.length c, .int .i64 i, .int .i64 e, ov, iv] 58 (0, 0)) ∧ W.heap[gb]? = some (.cells zT 40 (0, 0)) ∧ W.heap[w1.heap.size]? = some (.cells (tok4 (rd_T40 L i)) 40 (0, 0)) ∧ Below w.heap.size w W) ⟨?_, ?_, ?_, ?_⟩ ?_
 ·exact kQ
 ·exact kQ
 ·exact kQ3
 ·exact bQ
 rintro w2 ⟨BG2, BK2, BT2, hb2⟩
 have HB0 := aM (below_step HS.out.below hb2)
 have HK := aM (KeepBut.of_below hb2 g none)
 have GEg := aM HS.out.ge
 have GE0 := aM (Nat.le_trans HS.out.below.size GE.out)
 obtain ⟨h1, h2, h3, h4, h5, f1, f2, f3, f4, f5⟩ := b5 BG2
 obtain ⟨k1, k2, k3, k4, m1, m2, m3, m4⟩ := b4 (aM BK2)
 obtain ⟨t1, t2, t3, t4, u1, u2, u3, u4⟩ := b4 (aM BT2)
 have hq1 := hne1.out
 have hq2 := hne2.out
 have hq3 := Ne.symm hne1.out
 have hq4 := Ne.symm hne2.out
 have BK2 := aM BK2
 have BG2 := aM BG2
 clear HB BK BG
 go_wp2_with (fail)
 refine bodyPost_ret (results_cell_row rfl _ _ gb 40 (tok4 (rd_T40 L i)) (0, 0) _ rfl kQ Tryz.underlying40 rfl (by kernel_rfl)) rfl ?_
 exact ⟨rfl, ⟨(by have HB := HB0; exact bQ), HS.out.ge, kQ⟩, kpQ⟩
end
end Go.Proofs.YtjplnhdplpiogaaGreatDoor.M
end
section
/- Laid by this session's program hbprint.py out of the translation: the function hornbook/hex.Val and its contract. -/
namespace Go.Proofs.YtjplnhdplpiogaaGreatDoor.M
open Go.RowKit Go.Proofs.YtjplnhdplpiogaaGreatDoorW.PrintWords Go.Proofs.YtjplnhdplpiogaaGreatDoorW.PrintLast Go.Proofs.YtjplnhdplpiogaaGreatDoorW.PrintMore
attribute [local go_sem] max2_int min2_int max_two min_two max_three min_three max_four min_four
set_option linter.unusedVariables false
set_option linter.unusedSimpArgs false
mutual
def hex_Val.j0 : Nat → List Int → Bool → Option (Int × Int × Bool)
 | 0, _, _ => none
 | k + 1, x0, x14 => if x14 = true then (some (0, 0, false)) else (hex_Val.l0 k x0 (x0.length : Int) 0 (x0.length : Int) 0)
def hex_Val.l0 : Nat → List Int → Int → Int → Int → Int → Option (Int × Int × Bool)
 | 0, _, _, _, _, _ => none
 | k + 1, x19, x20, x21, x107000, x107001 => if x21 < x20 then (if 0 ≤ x21 then (if x21 < (x19.length : Int) then (hex_Val.l0 k x19 x20 (wrap64 (x21 + 1)) x107000 (Go.bits .or .i64 (wrap64 (x107001 * 256)) (wrap64 (rd x19 x21)))) else (none)) else (none)) else (some (x107000, x107001, true))
end
def hex_Val.f (k : Nat) (l0 : List Int) : Option (Int × Int × Bool) := if (l0.length : Int) < 1 then (hex_Val.j0 k l0 true) else (hex_Val.j0 k l0 (decide ((l0.length : Int) > 4)))
set_option maxHeartbeats 8000000 in
set_option maxRecDepth 100000 in
theorem hex_Val.calls (k : Nat) (A0 : Option Addr) (c0 : Nat) (l0 : List Int) (r1 : Int) (r2 : Int) (r3 : Bool) (w : World) (hr0 : Kd.C (Kd.int .u8) w A0 l0.length l0) (hc0 : l0.length ≤ c0) (h : hex_Val.f k l0 = some (r1, r2, r3)) :
  Calls Tryz.prog 161 #[.slice A0 l0.length c0] w fun e w' => e = .returned (.tuple #[.agg #[.int .i64 r1, .int .i64 r2], .bool r3]) ∧ Below w.heap.size w w' := by
 have hu46 := Tryz.underlying46
 have HR0 := aM hr0
 have HC0 := aM hc0
 clear hr0 hc0
 have HB := aM (Below.refl w.heap.size w)
 have H : (if (l0.length : Int) < 1 then (hex_Val.j0 k l0 true) else (hex_Val.j0 k l0 (decide ((l0.length : Int) > 4)))) = some (r1, r2, r3) := h
 clear h
 have HC2 := aM H
 clear H
 go_enter Tryz.func161, Tryz.ntmps161
 go_upto_region 1 with (first | ((with_reducible refine gD 2 ?_); (try (refine gate_guard (by rfl) ?_; dsimp only)); refine bE 2 (cs := #[.int .i64 0, .int .i64 0]) (t := 46) ?_; intro gb105 hg w3 hbox hb; have BK105 := aM hbox; have GW105 := sG w hg; have GE105 := sG w hg; replace HB := sB hb; clear hb hbox hg))
 (try simp only [Act.put, List.setIfInBounds_toArray, List.set_cons_zero, List.set_cons_succ])
 go_cut [14] (fun v14 wc => ∃ (kq : Nat) (x14_1 : Bool), v14 = .bool x14_1 ∧ Aside0 (hex_Val.j0 kq l0 x14_1 = some (r1, r2, r3)) ∧ Aside0 (kq ≤ k) ∧ Aside0 (wc.heap[gb105]? = some (.cells #[.int .i64 0, .int .i64 0] 46 (0, 0))) ∧ Aside0 (Below w.heap.size w wc))
 case first =>
  have H := HC2.out
  clear HC2
  refine iDc H ?_ ?_<;>clear H<;>intro H c4b0 c4
  ·have c4b1 : decide (l0.length < 1) = true := decide_eq_true (by omega)
   clear c4
   (first | rw [c4b0] | (simp only [i64_w, i32_w]; rw [c4b0]) | skip)
   have H' := aM H
   clear H
   go_wp2
   go_meet
   case rel => exact ⟨_, (true), vQ, H', ⟨by first | omega | exact Nat.le_refl _⟩, ⟨kQ⟩, ⟨bQ⟩⟩
  have c4b1 : decide (l0.length < 1) = false := decide_eq_false (by omega)
  clear c4
  (first | rw [c4b0] | (simp only [i64_w, i32_w]; rw [c4b0]) | skip)
  have H' := aM H
  clear H
  go_wp2
  go_meet
  case rel => exact ⟨_, (decide ((l0.length : Int) > 4)), vQ, H', ⟨by first | omega | exact Nat.le_refl _⟩, ⟨kQ⟩, ⟨bQ⟩⟩
 case rest =>
  clear HC2
  try clear c1
  try clear p2
  try clear c4
  try clear c4b0
  try clear c4b1
  obtain ⟨kq, x14_1, rfl, HA, HJ1, BK105, HB⟩ := hcut
  cases kq with
  | zero => exact absurd HA.out (by simp [hex_Val.j0])
  | succ kj1 =>
   have H := HA.out
   clear HA
   simp only [hex_Val.j0] at H
   by_cases c5 : x14_1 = true
   ·subst c5
    rw [if_pos rfl] at H
    simp only [Option.some.injEq, Prod.mk.injEq] at H
    obtain ⟨rfl, rfl, rfl⟩ := H
    have hcz6_0 : wc.cell? ⟨gb105, 0, none⟩ = some (.int .i64 0) := (blk_cell BK105.out 0).trans rfl
    have hcz6_1 : wc.cell? ⟨gb105, 1, none⟩ = some (.int .i64 0) := (blk_cell BK105.out 1).trans rfl
    have hfz6_0 := blk_frozen BK105.out 0
    have hfz6_1 := blk_frozen BK105.out 1
    go_wp2
    refine bodyPost_ret (results_ct rfl _ _ gb105 46 #[.int .i64 0, .int .i64 0] (0, 0) _ rfl kQ Tryz.underlying46 rfl (by kernel_rfl)) rfl ?_
    exact ⟨eQ, bQ⟩
   replace c5 := Bool.eq_false_iff.mpr c5
   subst c5
   rw [if_neg (show ¬ (false = true) by decide)] at H
   have H' := aM H
   clear H
   go_wp2_with (first | ((with_reducible refine gD 4 ?_); (try (refine gate_guard (by rfl) ?_; dsimp only)); refine bE 4 (cs := #[.int .i64 0, .int .i64 0]) (t := 46) ?_; intro gb106 hg w7 hbox hb; have BK106 := aM hbox; have GW106 := sG w hg; have GE106 := sG w hg; replace HB := sB hb; have NB105_106 := aM ((by rw [hg]; exact Nat.ne_of_lt (blk_lt (g := gb105) (o := .cells #[.int .i64 0, .int .i64 0] 46 (0, 0)) kQ) : gb105 ≠ gb106)); have NB106_105 := aM ((by rw [hg]; exact Nat.ne_of_gt (blk_lt (g := gb105) (o := .cells #[.int .i64 0, .int .i64 0] 46 (0, 0)) kQ) : gb106 ≠ gb105)); replace BK105 := kK BK105 hb; clear hb hbox hg; have hnb8 := NB106_105.out; have hnc8 := NB105_106.out; have hcz9_0 : w7.cell? ⟨gb106, 0, none⟩ = some (.int .i64 0) := (blk_cell BK106.out 0).trans rfl; have hcz9_1 : w7.cell? ⟨gb106, 1, none⟩ = some (.int .i64 0) := (blk_cell BK106.out 1).trans rfl; have hfz9_0 := blk_frozen BK106.out 0; have hfz9_1 := blk_frozen BK106.out 1))
   go_loopg [21] kj1 (fun kq v21 w' => ∃ (x21_2 : Int) (x107001_2 : Int), v21 = .int .i64 x21_2 ∧ Aside0 (hex_Val.l0 kq l0 (l0.length : Int) x21_2 (l0.length : Int) x107001_2 = some (r1, r2, r3)) ∧ Aside0 (kq ≤ kj1) ∧ Aside0 (w'.heap[gb105]? = some (.cells #[.int .i64 0, .int .i64 0] 46 (0, 0))) ∧ Aside0 (w'.heap[gb106]? = some (.cells #[.int .i64 (l0.length : Int), .int .i64 x107001_2] 46 (0, 0))) ∧ Aside0 (Below w.heap.size w w'))
   case atStart => exact ⟨(0), (0), vQ, H', ⟨Nat.le_refl _⟩, ⟨kQ⟩, ⟨kQ⟩, ⟨bQ⟩⟩
   case round =>
    clear H'
    try clear c1
    try clear p2
    try clear c4
    try clear c4b0
    try clear c4b1
    try clear c5
    try clear c8
    try clear hcz6_0
    try clear hcz6_1
    try clear hcz9_0
    try clear hcz9_1
    try clear hfz6_0
    try clear hfz6_1
    try clear hfz9_0
    try clear hfz9_1
    try clear p2
    obtain ⟨x21_2, x107001_2, rfl, HA, HK2, BK105, BK106, HB⟩ := hrel
    cases gk with
    | zero => exact absurd HA.out (by simp [hex_Val.l0])
    | succ k2 =>
     have H := HA.out
     clear HA
     simp only [hex_Val.l0] at H
     refine iD H ?_ ?_<;>clear H<;>intro H c10b0
     rotate_left
     ·simp only [Option.some.injEq, Prod.mk.injEq] at H
      obtain ⟨rfl, rfl, rfl⟩ := H
      have hnb15 := NB106_105.out
      have hnc15 := NB105_106.out
      have hcz16_0 : wr.cell? ⟨gb106, 0, none⟩ = some (.int .i64 (l0.length : Int)) := (blk_cell BK106.out 0).trans rfl
      have hcz16_1 : wr.cell? ⟨gb106, 1, none⟩ = some (.int .i64 x107001_2) := (blk_cell BK106.out 1).trans rfl
      have hfz16_0 := blk_frozen BK106.out 0
      have hfz16_1 := blk_frozen BK106.out 1
      have hcz17_0 : wr.cell? ⟨gb105, 0, none⟩ = some (.int .i64 0) := (blk_cell BK105.out 0).trans rfl
      have hcz17_1 : wr.cell? ⟨gb105, 1, none⟩ = some (.int .i64 0) := (blk_cell BK105.out 1).trans rfl
      have hfz17_0 := blk_frozen BK105.out 0
      have hfz17_1 := blk_frozen BK105.out 1
      go_wp2
      refine bodyPost_ret (results_ct rfl _ _ gb105 46 #[.int .i64 (l0.length : Int), .int .i64 x107001_2] (0, 0) _ rfl kQ Tryz.underlying46 rfl (by kernel_rfl)) rfl ?_
      exact ⟨eQ, bQ⟩
     refine iD H ?_ ?_<;>clear H<;>intro H c11b0
     rotate_left
     ·exact absurd H (by simp)
     refine iD H ?_ ?_<;>clear H<;>intro H c12b0
     rotate_left
     ·exact absurd H (by simp)
     have H' := aM H
     clear H
     have p107 : 0 ≤ (x21_2 : Int) := of_decide_eq_true hQ
     have q107 : x21_2 < (l0.length : Int) := of_decide_eq_true hQ
     obtain ⟨ad107, e107, hx107_0⟩ := Kd.at_int HR0.out x21_2 p107 q107
     cases e107
     replace hx107_0 := (HB.out.cell (World.block_lt_of_cell? w _ hx107_0)).trans hx107_0
     replace p107 := eq_true p107
     replace q107 := eq_true q107
     have hnb13 := NB106_105.out
     have hnc13 := NB105_106.out
     have hcz14_0 : wr.cell? ⟨gb106, 0, none⟩ = some (.int .i64 (l0.length : Int)) := (blk_cell BK106.out 0).trans rfl
     have hcz14_1 : wr.cell? ⟨gb106, 1, none⟩ = some (.int .i64 x107001_2) := (blk_cell BK106.out 1).trans rfl
     have hfz14_0 := blk_frozen BK106.out 0
     have hfz14_1 := blk_frozen BK106.out 1
     go_wp2
     go_roundg k2
     case measure => have := HJ1.out; have := HK2.out; omega
     case rel => exact ⟨(wrap64 (x21_2 + 1)), (Go.bits .or .i64 (wrap64 (x107001_2 * 256)) (wrap64 (rd l0 x21_2))), vQ, H', ⟨by have := HJ1.out; have := HK2.out; omega⟩, ⟨kQ⟩, ⟨kQ⟩, ⟨bQ⟩⟩
end Go.Proofs.YtjplnhdplpiogaaGreatDoor.M
end
section
namespace Go.Proofs.YtjplnhdplpiogaaGreatDoor.M
open Go.RowKit Go.Proofs.YtjplnhdplpiogaaGreatDoorW.PrintWords Go.Proofs.YtjplnhdplpiogaaGreatDoorW.PrintLast Go.Proofs.YtjplnhdplpiogaaGreatDoorW.PrintMore
attribute [local go_sem] max2_int min2_int max_two min_two max_three min_three max_four min_four
set_option linter.unusedVariables false
set_option linter.unusedSimpArgs false
def syn_value.f (a0_0 : Int) (a0_1 : Int) (a0_2 : Int) (a0_3 : ByteArray) : Option (Bool) := if a0_0 = 1 then (some true) else (if a0_0 = 2 then (some true) else (some (a0_0 == 5)))
set_option maxHeartbeats 8000000 in
set_option maxRecDepth 100000 in
theorem syn_value.calls (a0_0 : Int) (a0_1 : Int) (a0_2 : Int) (a0_3 : ByteArray) (r : Bool) (w : World) (h : syn_value.f a0_0 a0_1 a0_2 a0_3 = some r) :
  Calls Tryz.prog 56 #[.agg #[.int .i64 a0_0, .int .i64 a0_1, .int .i64 a0_2, .string a0_3]] w fun e w' => e = .returned (.bool r) ∧ Below w.heap.size w w' := by
 have hu40 := Tryz.underlying40
 have HB := aM (Below.refl w.heap.size w)
 have H : (if a0_0 = 1 then (some true) else (if a0_0 = 2 then (some true) else (some (a0_0 == 5)))) = some r := h
 clear h
 refine iEc H ?_ ?_<;>clear H<;>intro H c2b0 c2b1 c2
 ·clear c2
  obtain rfl := Option.some.inj H
  go_enter Tryz.func56, Tryz.ntmps56
  go_wp2_with (first | ((with_reducible refine gD 1 ?_); refine bE 1 (cs := #[.int .i64 a0_0, .int .i64 a0_1, .int .i64 a0_2, .string a0_3]) (t := 40) ?_; intro gb101 hg w3 hbox hb; have BK101 := aM hbox; have GW101 := sG w hg; have GE101 := sG w hg; replace HB := sB hb; clear hb hbox hg; obtain ⟨hcz4_0, hcz4_1, hcz4_2, hcz4_3, hfz4_0, hfz4_1, hfz4_2, hfz4_3⟩ := b4 BK101))
  go_ret
  exact ⟨eQ, bQ⟩
 refine iEc H ?_ ?_<;>clear H<;>intro H c5b0 c5b1 c5
 rotate_left
 ·obtain rfl := Option.some.inj H
  go_enter Tryz.func56, Tryz.ntmps56
  go_wp2_with (first | ((with_reducible refine gD 1 ?_); refine bE 1 (cs := #[.int .i64 a0_0, .int .i64 a0_1, .int .i64 a0_2, .string a0_3]) (t := 40) ?_; intro gb101 hg w8 hbox hb; have BK101 := aM hbox; have GW101 := sG w hg; have GE101 := sG w hg; replace HB := sB hb; clear hb hbox hg; obtain ⟨hcz9_0, hcz9_1, hcz9_2, hcz9_3, hfz9_0, hfz9_1, hfz9_2, hfz9_3⟩ := b4 BK101))
  go_ret
  exact ⟨eQ, bQ⟩
 clear c5
 obtain rfl := Option.some.inj H
 go_enter Tryz.func56, Tryz.ntmps56
 go_wp2_with (first | ((with_reducible refine gD 1 ?_); refine bE 1 (cs := #[.int .i64 a0_0, .int .i64 a0_1, .int .i64 a0_2, .string a0_3]) (t := 40) ?_; intro gb101 hg w6 hbox hb; have BK101 := aM hbox; have GW101 := sG w hg; have GE101 := sG w hg; replace HB := sB hb; clear hb hbox hg; obtain ⟨hcz7_0, hcz7_1, hcz7_2, hcz7_3, hfz7_0, hfz7_1, hfz7_2, hfz7_3⟩ := b4 BK101))
 go_ret
 exact ⟨eQ, bQ⟩
end Go.Proofs.YtjplnhdplpiogaaGreatDoor.M
end
section
namespace Go.Proofs.YtjplnhdplpiogaaGreatDoor.M
open Go.RowKit Go.Proofs.YtjplnhdplpiogaaGreatDoorW.PrintWords Go.Proofs.YtjplnhdplpiogaaGreatDoorW.PrintLast Go.Proofs.YtjplnhdplpiogaaGreatDoorW.PrintMore
set_option linter.unusedVariables false
set_option linter.unusedSimpArgs false
set_option maxRecDepth 100000
set_option maxHeartbeats 8000000
theorem b2 {w : World} {g : Nat} {t : TypeId} {x0 x1 : Value} (h : Aside0 (w.heap[g]? = some (.cells #[x0, x1] t (0, 0)))) : w.cell? ⟨g, 0, none⟩ = some x0 ∧ w.cell? ⟨g, 1, none⟩ = some x1 ∧ w.frozen? ⟨g, 0, none⟩ = false ∧ w.frozen? ⟨g, 1, none⟩ = false := ⟨blk_cell h.out 0, blk_cell h.out 1, blk_frozen h.out 0, blk_frozen h.out 1⟩
theorem b7 {w : World} {g : Nat} {t : TypeId} {x0 x1 x2 x3 x4 x5 x6 : Value} (h : Aside0 (w.heap[g]? = some (.cells #[x0, x1, x2, x3, x4, x5, x6] t (0, 0)))) : w.cell? ⟨g, 0, none⟩ = some x0 ∧ w.cell? ⟨g, 1, none⟩ = some x1 ∧ w.cell? ⟨g, 2, none⟩ = some x2 ∧ w.cell? ⟨g, 3, none⟩ = some x3 ∧ w.cell? ⟨g, 4, none⟩ = some x4 ∧ w.cell? ⟨g, 5, none⟩ = some x5 ∧ w.cell? ⟨g, 6, none⟩ = some x6 ∧ w.frozen? ⟨g, 0, none⟩ = false ∧ w.frozen? ⟨g, 1, none⟩ = false ∧ w.frozen? ⟨g, 2, none⟩ = false ∧ w.frozen? ⟨g, 3, none⟩ = false ∧ w.frozen? ⟨g, 4, none⟩ = false ∧ w.frozen? ⟨g, 5, none⟩ = false ∧ w.frozen? ⟨g, 6, none⟩ = false := ⟨blk_cell h.out 0, blk_cell h.out 1, blk_cell h.out 2, blk_cell h.out 3, blk_cell h.out 4, blk_cell h.out 5, blk_cell h.out 6, blk_frozen h.out 0, blk_frozen h.out 1, blk_frozen h.out 2, blk_frozen h.out 3, blk_frozen h.out 4, blk_frozen h.out 5, blk_frozen h.out 6⟩
theorem b8 {w : World} {g : Nat} {t : TypeId} {x0 x1 x2 x3 x4 x5 x6 x7 : Value} (h : Aside0 (w.heap[g]? = some (.cells #[x0, x1, x2, x3, x4, x5, x6, x7] t (0, 0)))) : w.cell? ⟨g, 0, none⟩ = some x0 ∧ w.cell? ⟨g, 1, none⟩ = some x1 ∧ w.cell? ⟨g, 2, none⟩ = some x2 ∧ w.cell? ⟨g, 3, none⟩ = some x3 ∧ w.cell? ⟨g, 4, none⟩ = some x4 ∧ w.cell? ⟨g, 5, none⟩ = some x5 ∧ w.cell? ⟨g, 6, none⟩ = some x6 ∧ w.cell? ⟨g, 7, none⟩ = some x7 ∧ w.frozen? ⟨g, 0, none⟩ = false ∧ w.frozen? ⟨g, 1, none⟩ = false ∧ w.frozen? ⟨g, 2, none⟩ = false ∧ w.frozen? ⟨g, 3, none⟩ = false ∧ w.frozen? ⟨g, 4, none⟩ = false ∧ w.frozen? ⟨g, 5, none⟩ = false ∧ w.frozen? ⟨g, 6, none⟩ = false ∧ w.frozen? ⟨g, 7, none⟩ = false := ⟨blk_cell h.out 0, blk_cell h.out 1, blk_cell h.out 2, blk_cell h.out 3, blk_cell h.out 4, blk_cell h.out 5, blk_cell h.out 6, blk_cell h.out 7, blk_frozen h.out 0, blk_frozen h.out 1, blk_frozen h.out 2, blk_frozen h.out 3, blk_frozen h.out 4, blk_frozen h.out 5, blk_frozen h.out 6, blk_frozen h.out 7⟩
theorem St.of_below {w0 w w1 : World} {g : Nat} {A : Option Addr} {c : Nat} {L : List S40} {i e : Int} {ov iv : Value} (h : St w0 w g A c L i e ov iv) (hb : Below w.heap.size w w1) : St w0 w1 g A c L i e ov iv := ⟨below_step h.below hb, h.ge, blk_below h.blk hb⟩
/-- A code of bytes. -/
def valF (s : ByteArray) : Int × Int × Bool := if 1 ≤ s.size ∧ s.size ≤ 4 then (s.size, (bytesOf s).foldl (fun v b => Go.bits .or .i64 (wrap64 (v * 256)) (wrap64 b)) 0, true) else (0, 0, false)
theorem val_loop (l : List Int) : ∀ (d i : Nat) (n v : Int), l.length = i + d → l.length ≤ 4 → hex_Val.l0 (d + 1) l (l.length : Int) (i : Int) n v = some (n, (l.drop i).foldl (fun v b => Go.bits .or .i64 (wrap64 (v * 256)) (wrap64 b)) v, true)
 | 0, i, n, v, hd, h4 => by
  simp only [hex_Val.l0]
  rw [if_neg (by omega), List.drop_eq_nil_of_le (by omega)]
  rfl
 | d + 1, i, n, v, hd, h4 => by
  have hi : i < l.length := by omega
  have e1 : wrap64 ((i : Int) + 1) = ((i + 1 : Nat) : Int) := by unfold wrap64; omega
  have hr : rd l (i : Int) = l[i] := by simp [rd, List.getD, hi]
  rw [hex_Val.l0, if_pos (by omega), if_pos (by omega), if_pos (by omega), e1, val_loop l d (i + 1) _ _ (by omega) h4, List.drop_eq_getElem_cons hi, List.foldl_cons, hr]
theorem val_eq (s : ByteArray) : ∃ k, hex_Val.f k (bytesOf s) = some (valF s) := by
 have hl := bytesOf_length s
 refine ⟨s.size + 2, ?_⟩
 unfold hex_Val.f valF
 by_cases h1 : ((bytesOf s).length : Int) < 1
 ·rw [if_pos h1, if_neg (by omega), hex_Val.j0, if_pos rfl]
 ·rw [if_neg h1]
  by_cases h2 : ((bytesOf s).length : Int) > 4
  ·rw [decide_eq_true h2, if_neg (by omega), hex_Val.j0, if_pos rfl]
  ·rw [decide_eq_false h2, if_pos (by omega), hex_Val.j0, if_neg (by decide)]
   have h := val_loop (bytesOf s) (bytesOf s).length 0 ((bytesOf s).length : Int) 0 (by omega) (by omega)
   rw [List.drop_zero] at h
   rw [hl] at h ⊢
   exact h
section
variable {w0 w : World} {g : Nat} {A : Option Addr} {c : Nat} {L : List S40} {i e : Int} {ov iv : Value}
theorem ahead_none (hS : St w0 w g A c L i e ov iv) (n : Int) (hn : i < n) :
  Calls Tryz.prog 54 #[.pointer (some ⟨g, 0, none⟩), .int .i64 n] w fun x w' => x = .returned (.agg #[.int .i64 0, .int .i64 0, .int .i64 0, .string ⟨#[]⟩]) ∧ Below w.heap.size w w' := by
 have hu40 := Tryz.underlying40
 have hu58 := Tryz.underlying58
 have hc : decide (i < n) = true := decide_eq_true hn
 have HS := aM hS
 clear hS
 have HB := aM (Below.refl w.heap.size w)
 obtain ⟨sc0, sc1, sc2, sc3, sc4, sf0, sf1, sf2, sf3, sf4⟩ := b5 HS.out.blk
 go_enter Tryz.func54, Tryz.ntmps54
 go_wp2_with (first | ((with_reducible refine gD 4 ?_); refine bE 4 (cs := #[.int .i64 0, .int .i64 0, .int .i64 0, .string (⟨#[]⟩ : ByteArray)]) (t := 40) ?_; intro gb hg w1 hbox hb; have BKgb := aM hbox; have NEgb := aM (show g ≠ gb by rw [hg]; exact Nat.ne_of_lt (blk_lt HS.out.blk)); have NFgb := aM (Ne.symm NEgb.out); have GEgb := aM (show w0.heap.size ≤ gb by rw [hg]; exact HS.out.below.size); replace HS := aM (HS.out.of_below hb); have GE := sG w hg; replace HB := aM hb; clear hb hbox hg; obtain ⟨sc0, sc1, sc2, sc3, sc4, sf0, sf1, sf2, sf3, sf4⟩ := b5 HS.out.blk; obtain ⟨gbk0, gbk1, gbk2, gbk3, gbm0, gbm1, gbm2, gbm3⟩ := b4 BKgb; have nqgb := NEgb.out; have nrgb := NFgb.out))
 refine bodyPost_ret (results_cell_row rfl _ _ gb 40 zT (0, 0) _ rfl kQ Tryz.underlying40 rfl (by kernel_rfl)) rfl ?_
 exact ⟨rfl, bQ⟩
theorem ahead_some (hC : Kd.C k40 w0 A L.length L) (hS : St w0 w g A c L i e ov iv) (n j : Int) (hj : j = i - n) (hn : ¬ i < n) (h0 : 0 ≤ j) (h1 : j < L.length) (hr : -9223372036854775808 ≤ i - n ∧ i - n ≤ 9223372036854775807) :
  Calls Tryz.prog 54 #[.pointer (some ⟨g, 0, none⟩), .int .i64 n] w fun x w' => x = .returned (.agg (tok4 (rd_T40 L j))) ∧ Below w.heap.size w w' := by
 have hu40 := Tryz.underlying40
 have hu58 := Tryz.underlying58
 have hc : decide (i < n) = false := decide_eq_false hn
 have hw : wrap64 (i - n) = j := by unfold wrap64; omega
 obtain ⟨ad, rfl, x0, x1, x2, x3⟩ := at_T40 (Kd.C_below hC hS.below) j h0 h1
 have HS := aM hS
 clear hS
 have HB := aM (Below.refl w.heap.size w)
 obtain ⟨sc0, sc1, sc2, sc3, sc4, sf0, sf1, sf2, sf3, sf4⟩ := b5 HS.out.blk
 have p9 := eq_true h0
 have q9 := eq_true h1
 clear hj hn hr
 go_enter Tryz.func54, Tryz.ntmps54
 go_wp2_with (first | ((with_reducible refine gD 4 ?_); refine bE 4 (cs := #[.int .i64 0, .int .i64 0, .int .i64 0, .string (⟨#[]⟩ : ByteArray)]) (t := 40) ?_; intro gb hg w1 hbox hb; have BKgb := aM hbox; have NEgb := aM (show g ≠ gb by rw [hg]; exact Nat.ne_of_lt (blk_lt HS.out.blk)); have NFgb := aM (Ne.symm NEgb.out); have GEgb := aM (show w0.heap.size ≤ gb by rw [hg]; exact HS.out.below.size); replace HS := aM (HS.out.of_below hb); have GE := sG w hg; replace HB := aM hb; replace x0 := pw_cell_below hb x0; replace x1 := pw_cell_below hb x1; replace x2 := pw_cell_below hb x2; replace x3 := pw_cell_below hb x3; clear hb hbox hg; obtain ⟨sc0, sc1, sc2, sc3, sc4, sf0, sf1, sf2, sf3, sf4⟩ := b5 HS.out.blk; obtain ⟨gbk0, gbk1, gbk2, gbk3, gbm0, gbm1, gbm2, gbm3⟩ := b4 BKgb; have nqgb := NEgb.out; have nrgb := NFgb.out))
 go_region
 try go_wp2_with (fail)
 refine bodyPost_ret (results_cell_row rfl _ _ gb 40 (tok4 (rd_T40 L j)) (0, 0) _ rfl kQ Tryz.underlying40 rfl (by kernel_rfl)) rfl ?_
 exact ⟨rfl, bQ⟩
theorem code_ok (hC : Kd.C k40 w0 A L.length L) (hS : St w0 w g A c L i e ov iv) (h0 : 0 ≤ i) (hn : i < L.length) (hk : (rd_T40 L i).f0 = 4) (n N V' : Int) (hs : (rd_T40 L i).f3.size ≤ 140737488351232) (hv : valF (rd_T40 L i).f3 = (N, V', true)) (hN : n > 0 → N = n) :
  Calls Tryz.prog 146 #[.pointer (some ⟨g, 0, none⟩), .int .i64 n] w fun x w' => x = .returned (.tuple #[.agg #[.int .i64 N, .int .i64 V'], .int .i64 (rd_T40 L i).f1]) ∧ St w0 w' g A c L (i + 1) e ov iv ∧ KeepBut w w' g none := by
 have hu40 := Tryz.underlying40
 have hu46 := Tryz.underlying46
 have hu58 := Tryz.underlying58
 obtain ⟨kv, hkv⟩ := val_eq (rd_T40 L i).f3
 rw [hv] at hkv
 have HS := aM hS
 have HK := aM (KeepBut.refl w g none)
 clear hS
 obtain ⟨hg1, hg2⟩ : (∃ b, decide (0 < n) = b ∧ (b = true → N = n)) ∧ True := ⟨⟨_, rfl, fun h => hN (of_decide_eq_true h)⟩, trivial⟩
 obtain ⟨b, hg1, hg3⟩ := hg1
 clear hg2 hN
 go_enter Tryz.func146, Tryz.ntmps146
 go_wp2_with (first | ((with_reducible refine gD 4 ?_); refine bE 4 (cs := #[.int .i64 0, .int .i64 0]) (t := 46) ?_; intro gb hg w1 hbox hb; have BKgb := aM hbox; have NEgb := aM (show g ≠ gb by rw [hg]; exact Nat.ne_of_lt (blk_lt HS.out.blk)); have NFgb := aM (Ne.symm NEgb.out); have GEgb := aM (show w0.heap.size ≤ gb by rw [hg]; exact HS.out.below.size); replace HS := aM (HS.out.of_below hb); replace HK := aM (KeepBut.trans HK.out (KeepBut.of_below hb g none) (.inl rfl)); have GW := aM (show w.heap.size ≤ gb by rw [hg]; exact Nat.le_refl _); clear hb hbox hg; obtain ⟨sc0, sc1, sc2, sc3, sc4, sf0, sf1, sf2, sf3, sf4⟩ := b5 HS.out.blk; obtain ⟨gbk0, gbk1, gbm0, gbm1⟩ := b2 BKgb; have nqgb := NEgb.out; have nrgb := NFgb.out) | (go_at_call 148; refine (take_ok hC HS.out h0 hn 4 hk.symm).mono ?_; rintro x w2 ⟨rfl, hs2, hk2⟩; replace HS := aM hs2; replace BKgb := aM (KeepBut.blk hk2 BKgb.out NFgb.out (by simp)); replace HK := aM (KeepBut.trans HK.out hk2 (.inl rfl)); have hcv := Lib.run_convert_string_bytes (P := Tryz.prog) (w2.alloc (.cells #[.int .i64 (rd_T40 L i).f0, .int .i64 (rd_T40 L i).f1, .int .i64 (rd_T40 L i).f2, .string (rd_T40 L i).f3] 40)) 9 52 5 (rd_T40 L i).f3 (u := .string) Tryz.underlying9 Tryz.underlying52 Tryz.underlying5; clear hs2 hk2 hk))
 have hsz : (w2.alloc (.cells #[.int .i64 (rd_T40 L i).f0, .int .i64 (rd_T40 L i).f1, .int .i64 (rd_T40 L i).f2, .string (rd_T40 L i).f3] 40)).heap.size = w2.heap.size + 1 := Array.size_push ..
 have hnw : (w2.alloc (.cells #[.int .i64 (rd_T40 L i).f0, .int .i64 (rd_T40 L i).f1, .int .i64 (rd_T40 L i).f2, .string (rd_T40 L i).f3] 40)).heap[w2.heap.size]? = some (.cells (tok4 (rd_T40 L i)) 40 (0, 0)) := blk_new _ _
 have hV0 : Below w2.heap.size w2 (w2.alloc (.cells #[.int .i64 (rd_T40 L i).f0, .int .i64 (rd_T40 L i).f1, .int .i64 (rd_T40 L i).f2, .string (rd_T40 L i).f3] 40)) := below_alloc (Below.refl _ _) _
 generalize w2.alloc (.cells #[.int .i64 (rd_T40 L i).f0, .int .i64 (rd_T40 L i).f1, .int .i64 (rd_T40 L i).f2, .string (rd_T40 L i).f3] 40) = V at hsz hnw hV0 hcv ⊢
 have hrd : Kd.C (Kd.int .u8) (Lib.bytesWorld V 5 (rd_T40 L i).f3) (some ⟨w2.heap.size + 1, 0, none⟩) (bytesOf (rd_T40 L i).f3).length (bytesOf (rd_T40 L i).f3) := by
  rw [bytesOf_length, ← hsz]
  exact Kd.C_of_reads (h1 := fun _ => rfl) (bytes_reads V 5 (rd_T40 L i).f3 (by omega))
 have hx := hex_Val.calls kv (some ⟨w2.heap.size + 1, 0, none⟩) (grownCap V (rd_T40 L i).f3.size 0 5) (bytesOf (rd_T40 L i).f3) N V' true _ hrd (by rw [bytesOf_length]; exact grownCap_ge _ _ _ _) hkv
 rw [bytesOf_length] at hx
 refine hx.mono ?_
 rintro x w3 ⟨rfl, hb⟩
 have hb1 : Below V.heap.size V w3 := below_step (bytes_below (Below.refl _ _) (Nat.le_refl _) 5 _) hb
 have hb2 : Below w2.heap.size w2 w3 := below_step hV0 hb1
 have BT := aM (blk_below hnw hb1)
 have NT := aM (Nat.ne_of_lt (blk_lt HS.out.blk))
 have NB := aM (Nat.ne_of_lt (blk_lt BKgb.out))
 replace HS := aM (HS.out.of_below hb2)
 replace HK := aM (KeepBut.trans HK.out (KeepBut.of_below hb2 g none) (.inl rfl))
 replace BKgb := aM (blk_below BKgb.out hb2)
 clear hx hb hrd hcv hnw hsz hV0 hb1 hb2
 obtain ⟨tk0, tk1, tk2, tk3, tm0, tm1, tm2, tm3⟩ := b4 BT
 have nt := NT.out
 have nb := NB.out
 have nm := aM (Nat.ne_of_lt (blk_lt HS.out.blk))
 have nn := aM (Nat.ne_of_lt (blk_lt BKgb.out))
 have no := aM (Nat.ne_of_lt (blk_lt BT.out))
 have hfin : ∀ W : World, St w0 W g A c L (i + 1) e ov iv ∧ W.heap[gb]? = some (.cells #[.int .i64 0, .int .i64 0] 46 (0, 0)) ∧ W.heap[w2.heap.size]? = some (.cells (tok4 (rd_T40 L i)) 40 (0, 0)) ∧ W.heap[w3.heap.size]? = some (.cells #[.int .i64 N, .int .i64 V'] 46 (0, 0)) ∧ KeepBut w W g none ↔ St w0 W g A c L (i + 1) e ov iv ∧ W.heap[gb]? = some (.cells #[.int .i64 0, .int .i64 0] 46 (0, 0)) ∧ W.heap[w2.heap.size]? = some (.cells (tok4 (rd_T40 L i)) 40 (0, 0)) ∧ W.heap[w3.heap.size]? = some (.cells #[.int .i64 N, .int .i64 V'] 46 (0, 0)) ∧ KeepBut w W g none := fun _ => Iff.rfl
 have hb4 : Below w3.heap.size w3 (w3.alloc (.cells #[.int .i64 N, .int .i64 V'] 46)) := below_alloc (Below.refl _ _) _
 have hall := aM ((⟨HS.out.of_below hb4, blk_below BKgb.out hb4, blk_below BT.out hb4, blk_new _ _, KeepBut.trans HK.out (KeepBut.of_below hb4 g none) (.inl rfl)⟩ : St w0 (w3.alloc (.cells #[.int .i64 N, .int .i64 V'] 46)) g A c L (i + 1) e ov iv ∧ (w3.alloc (.cells #[.int .i64 N, .int .i64 V'] 46)).heap[gb]? = some (.cells #[.int .i64 0, .int .i64 0] 46 (0, 0)) ∧ (w3.alloc (.cells #[.int .i64 N, .int .i64 V'] 46)).heap[w2.heap.size]? = some (.cells (tok4 (rd_T40 L i)) 40 (0, 0)) ∧ (w3.alloc (.cells #[.int .i64 N, .int .i64 V'] 46)).heap[w3.heap.size]? = some (.cells #[.int .i64 N, .int .i64 V'] 46 (0, 0)) ∧ KeepBut w (w3.alloc (.cells #[.int .i64 N, .int .i64 V'] 46)) g none))
 clear hfin hb4
 cases b with
 | true =>
  obtain rfl := hg3 rfl
  go_wp2_with (fail)
  refine norm_w (F := fun W => St w0 W g A c L (i + 1) e ov iv ∧ W.heap[gb]? = some (.cells #[.int .i64 0, .int .i64 0] 46 (0, 0)) ∧ W.heap[w2.heap.size]? = some (.cells (tok4 (rd_T40 L i)) 40 (0, 0)) ∧ W.heap[w3.heap.size]? = some (.cells #[.int .i64 N, .int .i64 V'] 46 (0, 0)) ∧ KeepBut w W g none) hall.out ?_
  clear hall HK BKgb BT HS sc0 sc1 sc2 sc3 sc4 sf0 sf1 sf2 sf3 sf4 gbk0 gbk1 gbm0 gbm1 tk0 tk1 tk2 tk3 tm0 tm1 tm2 tm3
  rintro w4 ⟨hs4, BKgb, BT, BV, hk4⟩
  have HS := aM hs4
  have HK := aM hk4
  replace BKgb := aM BKgb
  obtain ⟨gbk0, gbk1, gbm0, gbm1⟩ := b2 BKgb
  obtain ⟨tk0, tk1, tk2, tk3, tm0, tm1, tm2, tm3⟩ := b4 (aM BT)
  obtain ⟨vk0, vk1, vm0, vm1⟩ := b2 (aM BV)
  have HB := aM hs4.below
  clear hs4 hk4
  have q1 := nn.out
  have q2 := Ne.symm nn.out
  have q3 := Ne.symm NB.out
  go_region
  try go_wp2_with (fail)
  refine bodyPost_ret (results_ct rfl _ _ gb 46 #[.int .i64 N, .int .i64 V'] (0, 0) _ rfl kQ Tryz.underlying46 rfl (by kernel_rfl)) rfl ?_
  have HB2 := HS.out.blk
  exact ⟨rfl, ⟨bQ, HS.out.ge, (by have HB3 := aM HB2; exact kQ)⟩, kpQ⟩
 | false =>
  go_wp2_with (fail)
  refine norm_w (F := fun W => St w0 W g A c L (i + 1) e ov iv ∧ W.heap[gb]? = some (.cells #[.int .i64 0, .int .i64 0] 46 (0, 0)) ∧ W.heap[w2.heap.size]? = some (.cells (tok4 (rd_T40 L i)) 40 (0, 0)) ∧ W.heap[w3.heap.size]? = some (.cells #[.int .i64 N, .int .i64 V'] 46 (0, 0)) ∧ KeepBut w W g none) hall.out ?_
  clear hall HK BKgb BT HS sc0 sc1 sc2 sc3 sc4 sf0 sf1 sf2 sf3 sf4 gbk0 gbk1 gbm0 gbm1 tk0 tk1 tk2 tk3 tm0 tm1 tm2 tm3
  rintro w4 ⟨hs4, BKgb, BT, BV, hk4⟩
  have HS := aM hs4
  have HK := aM hk4
  replace BKgb := aM BKgb
  obtain ⟨gbk0, gbk1, gbm0, gbm1⟩ := b2 BKgb
  obtain ⟨tk0, tk1, tk2, tk3, tm0, tm1, tm2, tm3⟩ := b4 (aM BT)
  obtain ⟨vk0, vk1, vm0, vm1⟩ := b2 (aM BV)
  have HB := aM hs4.below
  clear hs4 hk4
  have q1 := nn.out
  have q2 := Ne.symm nn.out
  have q3 := Ne.symm NB.out
  go_region
  try go_wp2_with (fail)
  refine bodyPost_ret (results_ct rfl _ _ gb 46 #[.int .i64 N, .int .i64 V'] (0, 0) _ rfl kQ Tryz.underlying46 rfl (by kernel_rfl)) rfl ?_
  have HB2 := HS.out.blk
  exact ⟨rfl, ⟨bQ, HS.out.ge, (by have HB3 := aM HB2; exact kQ)⟩, kpQ⟩
end
end Go.Proofs.YtjplnhdplpiogaaGreatDoor.M
end
section
namespace Go.Proofs.YtjplnhdplpiogaaGreatDoor.M
open Go.RowKit Go.Proofs.YtjplnhdplpiogaaGreatDoorW.PrintWords Go.Proofs.YtjplnhdplpiogaaGreatDoorW.PrintLast Go.Proofs.YtjplnhdplpiogaaGreatDoorW.PrintMore
set_option linter.unusedVariables false
set_option linter.unusedSimpArgs false
set_option maxRecDepth 100000
set_option maxHeartbeats 8000000
section
variable {w0 w : World} {g : Nat} {A : Option Addr} {c : Nat} {L : List S40} {i e : Int} {ov iv : Value}
theorem to_ok (hC : Kd.C k40 w0 A L.length L) (hS : St w0 w g A c L i e ov iv) (h0 : 0 ≤ i) (hn : i < L.length) (hk : (rd_T40 L i).f0 = 1) (more : Int) (hm0 : 0 ≤ more) (hm1 : more ≤ 4294967296) (hN0 : 0 ≤ (rd_T40 L i).f2) (hN1 : (rd_T40 L i).f2 ≤ 65535 - more) :
  Calls Tryz.prog 125 #[.pointer (some ⟨g, 0, none⟩), .int .i64 more] w fun x w' => x = .returned (.int .i64 (rd_T40 L i).f2) ∧ St w0 w' g A c L (i + 1) e ov iv ∧ KeepBut w w' g none := by
 have hu40 := Tryz.underlying40
 have hw : wrap64 (65535 - more) = 65535 - more := by unfold wrap64; omega
 have hd1 : decide ((rd_T40 L i).f2 < 0) = false := decide_eq_false (by omega)
 have hd2 : decide (65535 - more < (rd_T40 L i).f2) = false := decide_eq_false (by omega)
 have HS := aM hS
 have HK := aM (KeepBut.refl w g none)
 clear hS hm0 hm1 hN0 hN1
 go_enter Tryz.func125, Tryz.ntmps125
 go_wp2_with (first | (go_at_call 148; refine (take_ok hC HS.out h0 hn 1 hk.symm).mono ?_; rintro x w2 ⟨rfl, hs2, hk2⟩; replace HS := aM hs2; replace HK := aM (KeepBut.trans HK.out hk2 (.inl rfl)); clear hs2 hk2 hk))
 go_ret
 exact ⟨rfl, HS.out.of_below (below_alloc (Below.refl _ _) _), KeepBut.trans HK.out (KeepBut.of_below (below_alloc (Below.refl _ _) _) g none) (.inl rfl)⟩
end
end Go.Proofs.YtjplnhdplpiogaaGreatDoor.M
end
section
namespace Go.Proofs.YtjplnhdplpiogaaGreatDoor.M
open Go.RowKit Go.Proofs.YtjplnhdplpiogaaGreatDoorW.PrintWords Go.Proofs.YtjplnhdplpiogaaGreatDoorW.PrintLast Go.Proofs.YtjplnhdplpiogaaGreatDoorW.PrintMore
set_option linter.unusedVariables false
set_option linter.unusedSimpArgs false
set_option maxRecDepth 100000
set_option maxHeartbeats 8000000
theorem b9 {w : World} {g : Nat} {t : TypeId} {x0 x1 x2 x3 x4 x5 x6 x7 x8 : Value} (h : Aside0 (w.heap[g]? = some (.cells #[x0, x1, x2, x3, x4, x5, x6, x7, x8] t (0, 0)))) : w.cell? ⟨g, 0, none⟩ = some x0 ∧ w.cell? ⟨g, 1, none⟩ = some x1 ∧ w.cell? ⟨g, 2, none⟩ = some x2 ∧ w.cell? ⟨g, 3, none⟩ = some x3 ∧ w.cell? ⟨g, 4, none⟩ = some x4 ∧ w.cell? ⟨g, 5, none⟩ = some x5 ∧ w.cell? ⟨g, 6, none⟩ = some x6 ∧ w.cell? ⟨g, 7, none⟩ = some x7 ∧ w.cell? ⟨g, 8, none⟩ = some x8 ∧ w.frozen? ⟨g, 0, none⟩ = false ∧ w.frozen? ⟨g, 1, none⟩ = false ∧ w.frozen? ⟨g, 2, none⟩ = false ∧ w.frozen? ⟨g, 3, none⟩ = false ∧ w.frozen? ⟨g, 4, none⟩ = false ∧ w.frozen? ⟨g, 5, none⟩ = false ∧ w.frozen? ⟨g, 6, none⟩ = false ∧ w.frozen? ⟨g, 7, none⟩ = false ∧ w.frozen? ⟨g, 8, none⟩ = false := ⟨blk_cell h.out 0, blk_cell h.out 1, blk_cell h.out 2, blk_cell h.out 3, blk_cell h.out 4, blk_cell h.out 5, blk_cell h.out 6, blk_cell h.out 7, blk_cell h.out 8, blk_frozen h.out 0, blk_frozen h.out 1, blk_frozen h.out 2, blk_frozen h.out 3, blk_frozen h.out 4, blk_frozen h.out 5, blk_frozen h.out 6, blk_frozen h.out 7, blk_frozen h.out 8⟩
abbrev namesV : Array Value := #[.string (⟨#[]⟩ : ByteArray), .string (⟨#[]⟩ : ByteArray), .string (⟨#[99, 111, 100, 101, 115, 112, 97, 99, 101, 114, 97, 110, 103, 101]⟩ : ByteArray), .string (⟨#[99, 105, 100, 114, 97, 110, 103, 101]⟩ : ByteArray), .string (⟨#[99, 105, 100, 99, 104, 97, 114]⟩ : ByteArray), .string (⟨#[110, 111, 116, 100, 101, 102, 114, 97, 110, 103, 101]⟩ : ByteArray), .string (⟨#[110, 111, 116, 100, 101, 102, 99, 104, 97, 114]⟩ : ByteArray), .string (⟨#[98, 102, 114, 97, 110, 103, 101]⟩ : ByteArray), .string (⟨#[98, 102, 99, 104, 97, 114]⟩ : ByteArray)]
def nameOf (k : Int) : ByteArray := ([(⟨#[]⟩ : ByteArray), (⟨#[]⟩ : ByteArray), (⟨#[99, 111, 100, 101, 115, 112, 97, 99, 101, 114, 97, 110, 103, 101]⟩ : ByteArray), (⟨#[99, 105, 100, 114, 97, 110, 103, 101]⟩ : ByteArray), (⟨#[99, 105, 100, 99, 104, 97, 114]⟩ : ByteArray), (⟨#[110, 111, 116, 100, 101, 102, 114, 97, 110, 103, 101]⟩ : ByteArray), (⟨#[110, 111, 116, 100, 101, 102, 99, 104, 97, 114]⟩ : ByteArray), (⟨#[98, 102, 114, 97, 110, 103, 101]⟩ : ByteArray), (⟨#[98, 102, 99, 104, 97, 114]⟩ : ByteArray)] : List ByteArray).getD k.toNat ⟨#[]⟩
theorem names_calls (w : World) : Calls Tryz.prog 25 #[] w fun x w' => x = .returned (.agg namesV) ∧ Below w.heap.size w w' := by
 have hu72 := Tryz.underlying72
 have HB := aM (Below.refl w.heap.size w)
 go_enter Tryz.func25, Tryz.ntmps25
 go_wp2_with (first | ((with_reducible refine gD 0 ?_); refine bE 0 (cs := #[.string (⟨#[]⟩ : ByteArray), .string (⟨#[]⟩ : ByteArray), .string (⟨#[]⟩ : ByteArray), .string (⟨#[]⟩ : ByteArray), .string (⟨#[]⟩ : ByteArray), .string (⟨#[]⟩ : ByteArray), .string (⟨#[]⟩ : ByteArray), .string (⟨#[]⟩ : ByteArray), .string (⟨#[]⟩ : ByteArray)]) (t := 72) ?_; intro gb hg w1 hbox hb; have BK := aM hbox; have GE := sG w hg; replace HB := aM hb; clear hb hbox hg; obtain ⟨n0, n1, n2, n3, n4, n5, n6, n7, n8, n9, n10, n11, n12, n13, n14, n15, n16, n17⟩ := b9 BK))
 refine bodyPost_ret (results_cell_row rfl _ _ gb 72 namesV (0, 0) _ rfl kQ Tryz.underlying72 rfl (by kernel_rfl)) rfl ?_
 exact ⟨rfl, bQ⟩
theorem index_names (k : Int) (hk : k = 2 ∨ k = 3 ∨ k = 4 ∨ k = 5 ∨ k = 6 ∨ k = 7 ∨ k = 8) (w : World) : (Instr.index 72 (.agg namesV) (.int .i64 k)).run Tryz.prog w = .ok (.string (nameOf k)) w := by
 rcases hk with rfl | rfl | rfl | rfl | rfl | rfl | rfl
 all_goals kernel_rfl
def syn_Begin.f (a0 : Int) : Option ByteArray := if a0 < 2 ∨ 8 < a0 then some ⟨#[]⟩ else some ((⟨#[98, 101, 103, 105, 110]⟩ : ByteArray) ++ nameOf a0)
theorem syn_Begin.calls (a0 : Int) (r : ByteArray) (w : World) (h : syn_Begin.f a0 = some r) : Calls Tryz.prog 14 #[.int .i64 a0] w fun e w' => e = .returned (.string r) ∧ Below w.heap.size w w' := by
 have HB := aM (Below.refl w.heap.size w)
 unfold syn_Begin.f at h
 by_cases h1 : a0 < 2
 ·rw [if_pos (.inl h1)] at h
  obtain rfl := Option.some.inj h
  have d1 := decide_eq_true h1
  go_enter Tryz.func14, Tryz.ntmps14
  go_wp2
  go_ret
  exact ⟨rfl, bQ⟩
 ·by_cases h2 : 8 < a0
  ·rw [if_pos (.inr h2)] at h
   obtain rfl := Option.some.inj h
   have d1 := decide_eq_false h1
   have d2 := decide_eq_true h2
   go_enter Tryz.func14, Tryz.ntmps14
   go_wp2
   go_ret
   exact ⟨rfl, bQ⟩
  ·rw [if_neg (by omega)] at h
   obtain rfl := Option.some.inj h
   have hk : a0 = 2 ∨ a0 = 3 ∨ a0 = 4 ∨ a0 = 5 ∨ a0 = 6 ∨ a0 = 7 ∨ a0 = 8 := by omega
   have hix := index_names a0 hk
   obtain rfl | rfl | rfl | rfl | rfl | rfl | rfl := hk
   all_goals clear h h1 h2
   all_goals go_enter Tryz.func14, Tryz.ntmps14
   all_goals go_wp2_with (first | (go_at_call 25; refine (names_calls _).mono ?_; rintro x w1 ⟨rfl, hb⟩; replace HB := sB hb; clear hb))
   all_goals go_ret
   all_goals exact ⟨rfl, bQ⟩
def entryFn (k : Int) : Nat := if k = 2 then 102 else if k = 3 then 103 else if k = 5 then 104 else if k = 7 then 105 else if k = 8 then 106 else 107
theorem entry_calls (p : Value) (k : Int) (hk : k = 2 ∨ k = 3 ∨ k = 4 ∨ k = 5 ∨ k = 6 ∨ k = 7 ∨ k = 8) (w : World) : Calls Tryz.prog 82 #[p, .int .i64 k] w fun e w' => e = .returned (.func (.func (entryFn k)) #[p] #[]) ∧ w' = w := by
 have hmf : ∀ (fn : Fn) (first cap : Array Value) (w : World), (Instr.makeFunc fn first cap).run Tryz.prog w = .ok (.func fn first cap) w := fun _ _ _ _ => rfl
 rcases hk with rfl | rfl | rfl | rfl | rfl | rfl | rfl
 all_goals go_enter Tryz.func82, Tryz.ntmps82
 all_goals go_wp2
 all_goals go_ret
 all_goals exact ⟨rfl, rfl⟩
end Go.Proofs.YtjplnhdplpiogaaGreatDoor.M
end
section
namespace Go.Proofs.YtjplnhdplpiogaaGreatDoor.M
open Go.RowKit Go.Proofs.YtjplnhdplpiogaaGreatDoorW.PrintWords Go.Proofs.YtjplnhdplpiogaaGreatDoorW.PrintLast Go.Proofs.YtjplnhdplpiogaaGreatDoorW.PrintMore
attribute [local go_sem] max2_int min2_int max_two min_two max_three min_three max_four min_four
set_option linter.unusedVariables false
set_option linter.unusedSimpArgs false
def stringslite_HasPrefix.f (a0 : ByteArray) (a1 : ByteArray) : Option (Bool) := if (a0.size : Int) ≥ (a1.size : Int) then (if 0 ≤ (a1.size : Int) then (if (a1.size : Int) ≤ (a0.size : Int) then (some ((a0.extract 0 ((a1.size : Int) : Int).toNat).toList == a1.toList)) else (none)) else (none)) else (some false)
set_option maxHeartbeats 8000000 in
set_option maxRecDepth 100000 in
theorem stringslite_HasPrefix.calls (a0 : ByteArray) (a1 : ByteArray) (r : Bool) (w : World) (h : stringslite_HasPrefix.f a0 a1 = some r) :
  Calls Tryz.prog 92 #[.string a0, .string a1] w fun e w' => e = .returned (.bool r) ∧ Drawn0 w w' := by
 have H : (if (a0.size : Int) ≥ (a1.size : Int) then (if 0 ≤ (a1.size : Int) then (if (a1.size : Int) ≤ (a0.size : Int) then (some ((a0.extract 0 ((a1.size : Int) : Int).toNat).toList == a1.toList)) else (none)) else (none)) else (some false)) = some r := h
 clear h
 refine iNc H ?_ ?_<;>clear H<;>intro H c3
 rotate_left
 ·have c3b0 : decide ((a1.size : Int) ≤ (a0.size : Int)) = false := decide_eq_false c3
  have c3b1 : decide (a1.size ≤ a0.size) = false := decide_eq_false (fun h => c3 (Int.ofNat_le.mpr h))
  clear c3
  obtain rfl := Option.some.inj H
  go_enter Tryz.func92, Tryz.ntmps92
  go_wp2
  go_ret
  exact ⟨by first | rfl | (simp; done) | (simp [*]; done), by repeat (first | exact Drawn0.refl _ | apply Drawn0.step)⟩
 have c3b0 : decide ((a1.size : Int) ≤ (a0.size : Int)) = true := decide_eq_true c3
 have c3b1 : decide (a1.size ≤ a0.size) = true := decide_eq_true (Int.ofNat_le.mp c3)
 clear c3
 refine iNc H ?_ ?_<;>clear H<;>intro H c4
 rotate_left
 ·exact absurd H (by simp)
 have c4b0 := eq_true c4
 have c4b1 : decide (0 ≤ (a1.size : Int)) = true := decide_eq_true c4
 clear c4
 refine iNc H ?_ ?_<;>clear H<;>intro H c5
 rotate_left
 ·exact absurd H (by simp)
 have c5b0 := eq_true c5
 have c5b1 : decide ((a1.size : Int) ≤ (a0.size : Int)) = true := decide_eq_true c5
 clear c5
 obtain rfl := Option.some.inj H
 go_enter Tryz.func92, Tryz.ntmps92
 go_wp2
 go_ret
 exact ⟨by first | rfl | (simp; done) | (simp [*]; done), by repeat (first | exact Drawn0.refl _ | apply Drawn0.step)⟩
def stringslite_CutPrefix.f (a0 : ByteArray) (a1 : ByteArray) : Option (ByteArray × Bool) := (stringslite_HasPrefix.f a0 a1).bind fun t102 => (if t102 = true then (if 0 ≤ (a1.size : Int) then (if (a1.size : Int) ≤ (a0.size : Int) then (some (a0.extract ((a1.size : Int) : Int).toNat a0.size, true)) else (none)) else (none)) else (some (a0, false)))
set_option maxHeartbeats 8000000 in
set_option maxRecDepth 100000 in
theorem stringslite_CutPrefix.calls (a0 : ByteArray) (a1 : ByteArray) (r1 : ByteArray) (r2 : Bool) (w : World) (h : stringslite_CutPrefix.f a0 a1 = some (r1, r2)) :
  Calls Tryz.prog 101 #[.string a0, .string a1] w fun e w' => e = .returned (.tuple #[.string r1, .bool r2]) ∧ Drawn0 w w' := by
 have H : ((stringslite_HasPrefix.f a0 a1).bind fun t102 => (if t102 = true then (if 0 ≤ (a1.size : Int) then (if (a1.size : Int) ≤ (a0.size : Int) then (some (a0.extract ((a1.size : Int) : Int).toNat a0.size, true)) else (none)) else (none)) else (some (a0, false)))) = some (r1, r2) := h
 clear h
 replace H := bS H
 obtain ⟨t102, A3, H⟩ := H
 try dsimp only at H
 by_cases c4 : t102 = true
 rotate_left
 ·replace c4 := Bool.eq_false_iff.mpr c4
  subst c4
  rw [if_neg (show ¬ (false = true) by decide)] at H
  simp only [Option.some.injEq, Prod.mk.injEq] at H
  obtain ⟨rfl, rfl⟩ := H
  go_enter Tryz.func101, Tryz.ntmps101
  go_wp2_with (first | ((with_reducible refine gC 92 ?_); refine gL (some 8) Tryz.func92 #[.string a0, .string a1] ?_; (with_reducible refine (stringslite_HasPrefix.calls a0 a1 false _ A3.out).mono ?_); rintro e w' ⟨rfl, ⟨nd, rfl⟩⟩; refine ⟨_, rfl, ?_⟩))
  go_ret2
  exact ⟨by first | rfl | (simp; done) | (simp [*]; done), by repeat (first | exact Drawn0.refl _ | apply Drawn0.step)⟩
 subst c4
 rw [if_pos rfl] at H
 refine iNc H ?_ ?_<;>clear H<;>intro H c5
 rotate_left
 ·exact absurd H (by simp)
 have c5b0 := eq_true c5
 have c5b1 : decide (0 ≤ (a1.size : Int)) = true := decide_eq_true c5
 clear c5
 refine iNc H ?_ ?_<;>clear H<;>intro H c6
 rotate_left
 ·exact absurd H (by simp)
 have c6b0 := eq_true c6
 have c6b1 : decide ((a1.size : Int) ≤ (a0.size : Int)) = true := decide_eq_true c6
 clear c6
 simp only [Option.some.injEq, Prod.mk.injEq] at H
 obtain ⟨rfl, rfl⟩ := H
 go_enter Tryz.func101, Tryz.ntmps101
 go_wp2_with (first | ((with_reducible refine gC 92 ?_); refine gL (some 8) Tryz.func92 #[.string a0, .string a1] ?_; (with_reducible refine (stringslite_HasPrefix.calls a0 a1 true _ A3.out).mono ?_); rintro e w' ⟨rfl, ⟨nd, rfl⟩⟩; refine ⟨_, rfl, ?_⟩))
 go_ret2
 exact ⟨by first | rfl | (simp; done) | (simp [*]; done), by repeat (first | exact Drawn0.refl _ | apply Drawn0.step)⟩
def strings_CutPrefix.f (a0 : ByteArray) (a1 : ByteArray) : Option (ByteArray × Bool) := (stringslite_CutPrefix.f a0 a1).bind fun bt103 => (some (bt103.1, bt103.2))
set_option maxHeartbeats 8000000 in
set_option maxRecDepth 100000 in
theorem strings_CutPrefix.calls (a0 : ByteArray) (a1 : ByteArray) (r1 : ByteArray) (r2 : Bool) (w : World) (h : strings_CutPrefix.f a0 a1 = some (r1, r2)) :
  Calls Tryz.prog 80 #[.string a0, .string a1] w fun e w' => e = .returned (.tuple #[.string r1, .bool r2]) ∧ Drawn0 w w' := by
 have H : ((stringslite_CutPrefix.f a0 a1).bind fun bt103 => (some (bt103.1, bt103.2))) = some (r1, r2) := h
 clear h
 replace H := bS H
 obtain ⟨⟨t103, t104⟩, A3, H⟩ := H
 try dsimp only at H
 simp only [Option.some.injEq, Prod.mk.injEq] at H
 obtain ⟨rfl, rfl⟩ := H
 go_enter Tryz.func80, Tryz.ntmps80
 go_wp2_with (first | ((with_reducible refine gC 101 ?_); refine gL (some 8) Tryz.func101 #[.string a0, .string a1] ?_; (with_reducible refine (stringslite_CutPrefix.calls a0 a1 t103 t104 _ A3.out).mono ?_); rintro e w' ⟨rfl, ⟨nd, rfl⟩⟩; refine ⟨_, rfl, ?_⟩))
 go_ret2
 exact ⟨by first | rfl | (simp; done) | (simp [*]; done), by repeat (first | exact Drawn0.refl _ | apply Drawn0.step)⟩
def slices_Index_string_string.l0 : Nat → List ByteArray → ByteArray → Int → Int → Option (Int)
 | 0, _, _, _, _ => none
 | k + 1, x0, x1, x7, x8 => if x8 < x7 then (if 0 ≤ x8 then (if x8 < (x0.length : Int) then (if x1.toList = (rdOf ByteArray.empty x0 x8).toList then (some x8) else (slices_Index_string_string.l0 k x0 x1 x7 (wrap64 (x8 + 1)))) else (none)) else (none)) else (some (-1))
def slices_Index_string_string.f (k : Nat) (l0 : List ByteArray) (a1 : ByteArray) : Option (Int) := slices_Index_string_string.l0 k l0 a1 (l0.length : Int) 0
set_option maxHeartbeats 8000000 in
set_option maxRecDepth 100000 in
theorem slices_Index_string_string.calls (k : Nat) (A0 : Option Addr) (c0 : Nat) (l0 : List ByteArray) (a1 : ByteArray) (r : Int) (w : World) (hr0 : Kd.C Kd.string w A0 l0.length l0) (hc0 : l0.length ≤ c0) (h : slices_Index_string_string.f k l0 a1 = some r) :
  Calls Tryz.prog 81 #[.slice A0 l0.length c0, .string a1] w fun e w' => e = .returned (.int .i64 r) ∧ Drawn0 w w' := by
 have HR0 := aM hr0
 have HC0 := aM hc0
 clear hr0 hc0
 have H : (slices_Index_string_string.l0 k l0 a1 (l0.length : Int) 0) = some r := h
 clear h
 have H' := aM H
 clear H
 go_enter Tryz.func81, Tryz.ntmps81
 go_wp2
 go_loopg [8] k (fun kq v8 w' => ∃ (x8_1 : Int), v8 = .int .i64 x8_1 ∧ Aside0 (slices_Index_string_string.l0 kq l0 a1 (l0.length : Int) x8_1 = some r) ∧ Aside0 (kq ≤ k) ∧ Drawn0 w w')
 case atStart => exact ⟨(0), vQ, H', ⟨Nat.le_refl _⟩, by repeat (first | exact Drawn0.refl _ | apply Drawn0.step)⟩
 case round =>
  clear H'
  try clear p2
  obtain ⟨x8_1, rfl, HA, HK1, ⟨m1, rfl⟩⟩ := hrel
  cases gk with
  | zero => exact absurd HA.out (by simp [slices_Index_string_string.l0])
  | succ k1 =>
   have H := HA.out
   clear HA
   simp only [slices_Index_string_string.l0] at H
   refine iD H ?_ ?_<;>clear H<;>intro H c3b0
   rotate_left
   ·obtain rfl := Option.some.inj H
    go_wp2
    go_ret
    exact ⟨by first | rfl | (simp; done) | (simp [*]; done), by repeat (first | exact Drawn0.refl _ | apply Drawn0.step)⟩
   refine iD H ?_ ?_<;>clear H<;>intro H c4b0
   rotate_left
   ·exact absurd H (by simp)
   refine iD H ?_ ?_<;>clear H<;>intro H c5b0
   rotate_left
   ·exact absurd H (by simp)
   refine iEc H ?_ ?_<;>clear H<;>intro H c6b0 c6b1 c6
   ·clear c6
    obtain rfl := Option.some.inj H
    have p106 : 0 ≤ (x8_1 : Int) := of_decide_eq_true hQ
    have q106 : x8_1 < (l0.length : Int) := of_decide_eq_true hQ
    obtain ⟨ad106, e106, hx106_0⟩ := Kd.at_string HR0.out x8_1 p106 q106
    cases e106
    replace p106 := eq_true p106
    replace q106 := eq_true q106
    go_wp2
    go_ret
    exact ⟨by first | rfl | (simp; done) | (simp [*]; done), by repeat (first | exact Drawn0.refl _ | apply Drawn0.step)⟩
   have H' := aM H
   clear H
   have p106 : 0 ≤ (x8_1 : Int) := of_decide_eq_true hQ
   have q106 : x8_1 < (l0.length : Int) := of_decide_eq_true hQ
   obtain ⟨ad106, e106, hx106_0⟩ := Kd.at_string HR0.out x8_1 p106 q106
   cases e106
   replace p106 := eq_true p106
   replace q106 := eq_true q106
   go_wp2
   go_roundg k1
   case measure => have := HK1.out; omega
   case rel => exact ⟨(wrap64 (x8_1 + 1)), vQ, H', ⟨by have := HK1.out; omega⟩, by repeat (first | exact Drawn0.refl _ | apply Drawn0.step)⟩
end Go.Proofs.YtjplnhdplpiogaaGreatDoor.M
end
section
namespace Go.Proofs.YtjplnhdplpiogaaGreatDoor.M
open Go.RowKit Go.Proofs.YtjplnhdplpiogaaGreatDoorW.PrintWords Go.Proofs.YtjplnhdplpiogaaGreatDoorW.PrintLast Go.Proofs.YtjplnhdplpiogaaGreatDoorW.PrintMore
set_option linter.unusedVariables false
set_option linter.unusedSimpArgs false
set_option maxRecDepth 100000
set_option maxHeartbeats 8000000
abbrev names7 : List ByteArray := [(⟨#[99, 111, 100, 101, 115, 112, 97, 99, 101, 114, 97, 110, 103, 101]⟩ : ByteArray), (⟨#[99, 105, 100, 114, 97, 110, 103, 101]⟩ : ByteArray), (⟨#[99, 105, 100, 99, 104, 97, 114]⟩ : ByteArray), (⟨#[110, 111, 116, 100, 101, 102, 114, 97, 110, 103, 101]⟩ : ByteArray), (⟨#[110, 111, 116, 100, 101, 102, 99, 104, 97, 114]⟩ : ByteArray), (⟨#[98, 102, 114, 97, 110, 103, 101]⟩ : ByteArray), (⟨#[98, 102, 99, 104, 97, 114]⟩ : ByteArray)]
def cutB (s : ByteArray) : ByteArray × Bool := if 5 ≤ s.size ∧ (s.extract 0 5).toList = ((⟨#[98, 101, 103, 105, 110]⟩ : ByteArray)).toList then (s.extract 5 s.size, true) else (s, false)
def idxAt (t : ByteArray) : List ByteArray → Int → Int
 | [], _ => -1
 | x :: l, i => if t.toList = x.toList then i else idxAt t l (i + 1)
def begunF (s : ByteArray) : Int × Bool := (idxAt (cutB s).1 names7 0 + 2, (cutB s).2 && decide (0 ≤ idxAt (cutB s).1 names7 0))
theorem idx_bounds (t : ByteArray) : ∀ (l : List ByteArray) (i : Int), 0 ≤ i → -1 ≤ idxAt t l i ∧ idxAt t l i ≤ i + l.length
 | [], i, h => by simp only [idxAt, List.length_nil]; omega
 | x :: l, i, h => by
  simp only [idxAt, List.length_cons]
  split
  ·omega
  ·have := idx_bounds t l (i + 1) (by omega)
   omega
theorem index_loop (l : List ByteArray) (t : ByteArray) (h64 : l.length ≤ 1000) : ∀ (d i : Nat), l.length = i + d → slices_Index_string_string.l0 (d + 1) l t (l.length : Int) (i : Int) = some (idxAt t (l.drop i) (i : Int))
 | 0, i, hd => by
  rw [slices_Index_string_string.l0, if_neg (by omega), List.drop_eq_nil_of_le (by omega)]
  rfl
 | d + 1, i, hd => by
  have hi : i < l.length := by omega
  have e1 : wrap64 ((i : Int) + 1) = ((i + 1 : Nat) : Int) := by unfold wrap64; omega
  have hr : rdOf ByteArray.empty l (i : Int) = l[i] := by simp [rdOf, List.getD, hi]
  rw [slices_Index_string_string.l0, if_pos (by omega), if_pos (by omega), if_pos (by omega), e1, index_loop l t h64 d (i + 1) (by omega), List.drop_eq_getElem_cons hi, hr]
  rw [show idxAt t (l[i] :: l.drop (i + 1)) (i : Int) = if t.toList = l[i].toList then (i : Int) else idxAt t (l.drop (i + 1)) ((i : Int) + 1) from rfl]
  split
  ·rfl
  ·rfl
theorem cut_eq (s : ByteArray) : strings_CutPrefix.f s (⟨#[98, 101, 103, 105, 110]⟩ : ByteArray) = some ((cutB s).1, (cutB s).2) := by
 have e5 : ((⟨#[98, 101, 103, 105, 110]⟩ : ByteArray)).size = 5 := rfl
 have hx : (((5 : Nat) : Int)).toNat = 5 := rfl
 unfold strings_CutPrefix.f stringslite_CutPrefix.f stringslite_HasPrefix.f cutB
 rw [e5]
 by_cases h : 5 ≤ s.size
 ·have h' : (s.size : Int) ≥ ((5 : Nat) : Int) := by omega
  rw [if_pos h', if_pos (by decide), if_pos (by omega), hx]
  by_cases h2 : (s.extract 0 5).toList = ((⟨#[98, 101, 103, 105, 110]⟩ : ByteArray)).toList
  ·rw [if_pos (show 5 ≤ s.size ∧ (s.extract 0 5).toList = ((⟨#[98, 101, 103, 105, 110]⟩ : ByteArray)).toList from ⟨h, h2⟩), beq_iff_eq.2 h2]
   simp only [Option.bind_some, if_true]
   rw [if_pos (show (((5 : Nat) : Int)) ≤ s.size by omega)]
   rfl
  ·rw [if_neg (show ¬ (5 ≤ s.size ∧ (s.extract 0 5).toList = ((⟨#[98, 101, 103, 105, 110]⟩ : ByteArray)).toList) from fun hh => h2 hh.2), beq_eq_false_iff_ne.2 h2]
   rfl
 ·rw [if_neg (show ¬ (s.size : Int) ≥ ((5 : Nat) : Int) by omega), if_neg (show ¬ (5 ≤ s.size ∧ (s.extract 0 5).toList = ((⟨#[98, 101, 103, 105, 110]⟩ : ByteArray)).toList) from fun hh => h hh.1)]
  rfl
theorem begun_calls (s : ByteArray) (w : World) : Calls Tryz.prog 55 #[.string s] w fun x w' => x = .returned (.tuple #[.int .i64 (begunF s).1, .bool (begunF s).2]) ∧ Below w.heap.size w w' := by
 have hu72 := Tryz.underlying72
 have HB := aM (Below.refl w.heap.size w)
 have hc := aM (cut_eq s)
 obtain ⟨kb, kI, hkI, hki, hb⟩ : ∃ (b : Bool) (k : Int), idxAt (cutB s).1 names7 0 = k ∧ (-1 ≤ k ∧ k ≤ 7) ∧ decide (0 ≤ k) = b := ⟨_, _, rfl, by have := idx_bounds (cutB s).1 names7 0 (by omega); exact this, rfl⟩
 have hI := aM (show slices_Index_string_string.f 8 names7 (cutB s).1 = some kI by rw [← hkI]; exact index_loop names7 (cutB s).1 (by decide) 7 0 rfl)
 have hF : begunF s = (kI + 2, (cutB s).2 && kb) := by unfold begunF; rw [hkI, hb]
 rw [hF]
 obtain ⟨t, b, ht, hb2⟩ : ∃ t b, (cutB s).1 = t ∧ (cutB s).2 = b := ⟨_, _, rfl, rfl⟩
 rw [ht, hb2] at hc
 rw [ht] at hI
 rw [hb2]
 have hw : wrap64 (kI + 2) = kI + 2 := by unfold wrap64; omega
 clear hkI hki hF ht hb2
 go_enter Tryz.func55, Tryz.ntmps55
 go_wp2_with (first | (go_at_call 80; refine (strings_CutPrefix.calls _ _ _ _ _ hc.out).mono ?_; rintro x w1 ⟨rfl, hd⟩; replace HB := sB hd.below; clear hd) | (go_at_call 25; refine (names_calls _).mono ?_; rintro x w2 ⟨rfl, hb2⟩; replace HB := sB hb2; clear hb2))
 have hnw : (w2.alloc (.cells namesV 72)).heap[w2.heap.size]? = some (.cells namesV 72 (0, 0)) := blk_new _ _
 have hrd : Kd.C Kd.string (w2.alloc (.cells namesV 72)) (some ⟨w2.heap.size, 2, none⟩) names7.length names7 := by
  refine Kd.C_of_reads (d := ⟨#[]⟩) ⟨rfl, by decide, fun _ => ⟨_, rfl, fun j hj => ?_⟩⟩
  obtain rfl | rfl | rfl | rfl | rfl | rfl | rfl : j = 0 ∨ j = 1 ∨ j = 2 ∨ j = 3 ∨ j = 4 ∨ j = 5 ∨ j = 6 := by have : names7.length = 7 := rfl; omega
  ·exact blk_cell hnw 2
  ·exact blk_cell hnw 3
  ·exact blk_cell hnw 4
  ·exact blk_cell hnw 5
  ·exact blk_cell hnw 6
  ·exact blk_cell hnw 7
  ·exact blk_cell hnw 8
 replace HB := aM (below_alloc HB.out (.cells namesV 72))
 clear hnw
 generalize w2.alloc (.cells namesV 72) = V at hrd HB ⊢
 refine (slices_Index_string_string.calls 8 _ 7 names7 t kI _ hrd (by decide) hI.out).mono ?_
 rintro x w3 ⟨rfl, hd⟩
 replace HB := sB hd.below
 clear hd hrd
 cases b
 ·go_wp2
  go_ret2
  exact ⟨by simp only [hw]; rfl, bQ⟩
 ·go_wp2
  go_ret2
  exact ⟨by simp only [hw, Bool.true_and]; rfl, bQ⟩
end Go.Proofs.YtjplnhdplpiogaaGreatDoor.M
end
section
namespace Go.Proofs.YtjplnhdplpiogaaGreatDoor.M
open Go.RowKit Go.Proofs.YtjplnhdplpiogaaGreatDoorW.PrintWords Go.Proofs.YtjplnhdplpiogaaGreatDoorW.PrintLast Go.Proofs.YtjplnhdplpiogaaGreatDoorW.PrintMore
set_option linter.unusedVariables false
set_option linter.unusedSimpArgs false
set_option maxRecDepth 100000
set_option maxHeartbeats 8000000
theorem KeepBut.weak {w w1 : World} {g : Nat} (h : KeepBut w w1 g none) (row : Option Nat) : KeepBut w w1 g row := ⟨h.1, fun i hi hg _ => h.2 i hi hg (by simp)⟩
theorem R_keepT {α : Type} {d : Kd α} {e base g t : Nat} {w w1 : World} {ok : Nat → Prop} {v : Value} {xs : List α} {cs : Array Value} (h : d.R e w base ok v xs) (hb : w.heap[g]? = some (.cells cs t (0, 0))) (ht : ∀ q, q ∈ e :: d.E → q ≠ t) (hk : KeepBut w w1 g none) : d.R e w1 base ok v xs :=
 Kd.R_mono (Kd.R_keep (Kd.R_bound h) hk (fun k hq hkg => by
  subst hkg
  obtain ⟨q, hq, cells, hc⟩ := hq.2.2.2
  rw [hb] at hc
  injection hc with h1
  injection h1 with _ h2
  exact ht q hq h2.symm)) (fun k hk => hk.1)
theorem al_cell0 {w1 : World} (o : Obj) {a : Addr} {v : Value} (h : w1.cell? a = some v) : (w1.alloc o).cell? a = some v := (World.cell?_alloc_lt w1 o a (World.block_lt_of_cell? _ _ h)).trans h
section
variable {w0 w : World} {g : Nat} {A : Option Addr} {c : Nat} {L : List S40} {i e : Int} {ov iv : Value}
theorem pairs_other (hS : St w0 w g A c L i e ov iv) (h0 : 0 ≤ i) (h1 : i < 9223372036854775807) (n m : Nat) (Ao : Option Addr) (hov : ov = .slice Ao n m) (t : S40) (hk : t.f0 < 6 ∨ 11 < t.f0) :
  Calls Tryz.prog 32 #[.pointer (some ⟨g, 0, none⟩), .agg (tok4 t)] w fun x w' => x = .returned (.tuple #[]) ∧ St w0 w' g A c L (i + 1) e ov iv ∧ KeepBut w w' g none := by
 subst hov
 have hu40 := Tryz.underlying40
 have hu58 := Tryz.underlying58
 have hw : wrap64 (i + 1) = i + 1 := by unfold wrap64; omega
 have c6 : (t.f0 == 6) = false := beq_eq_false_iff_ne.mpr (by omega)
 have c7 : (t.f0 == 7) = false := beq_eq_false_iff_ne.mpr (by omega)
 have c8 : (t.f0 == 8) = false := beq_eq_false_iff_ne.mpr (by omega)
 have c9 : (t.f0 == 9) = false := beq_eq_false_iff_ne.mpr (by omega)
 have c10 : (t.f0 == 10) = false := beq_eq_false_iff_ne.mpr (by omega)
 have c11 : (t.f0 == 11) = false := beq_eq_false_iff_ne.mpr (by omega)
 have hb : Below w.heap.size w (w.alloc (.cells #[.int .i64 t.f0, .int .i64 t.f1, .int .i64 t.f2, .string t.f3] 40)) := below_alloc (Below.refl _ _) _
 have HS := aM (hS.of_below hb)
 have HK := aM (KeepBut.of_below hb g none)
 clear hb hS hk
 obtain ⟨sc0, sc1, sc2, sc3, sc4, sf0, sf1, sf2, sf3, sf4⟩ := b5 HS.out.blk
 go_enter Tryz.func32, Tryz.ntmps32
 go_wp2_with (fail)
 go_end0
 have HB := aM HS.out.below
 have GE := aM HS.out.ge
 have HB2 := aM HS.out.blk
 exact ⟨rfl, ⟨bQ, HS.out.ge, kQ⟩, kpQ⟩
theorem pairs_open (hS : St w0 w g A c L i e ov iv) (h0 : 0 ≤ i) (h1 : i < 9223372036854775807) (opn : List Int) (hO : (Kd.int .i64).R 3 w w0.heap.size (fun _ => True) ov opn) (t : S40) (hk : t.f0 = 6 ∨ t.f0 = 8 ∨ t.f0 = 10) (hn : opn.length < 32) :
  Calls Tryz.prog 32 #[.pointer (some ⟨g, 0, none⟩), .agg (tok4 t)] w fun x w' => x = .returned (.tuple #[]) ∧ ∃ ov', St w0 w' g A c L (i + 1) e ov' iv ∧ (Kd.int .i64).R 3 w' w0.heap.size (fun _ => True) ov' (opn ++ [t.f0]) ∧ KeepBut w w' g ov.ownBlock ∧ (ov'.ownBlock = ov.ownBlock ∨ ∃ b, ov'.ownBlock = some b ∧ w.heap.size ≤ b) := by
 obtain ⟨Ao, m, rfl⟩ := Kd.R_slice hO
 have hu40 := Tryz.underlying40
 have hu58 := Tryz.underlying58
 have hw : wrap64 (i + 1) = i + 1 := by unfold wrap64; omega
 have hn32 : (((opn.length : Nat) : Int) == 32) = false := beq_eq_false_iff_ne.mpr (by omega)
 have hb : Below w.heap.size w (w.alloc (.cells #[.int .i64 t.f0, .int .i64 t.f1, .int .i64 t.f2, .string t.f3] 40)) := below_alloc (Below.refl _ _) _
 have HS := aM (hS.of_below hb)
 have HK := aM (KeepBut.of_below hb g none)
 have HO := aM (Kd.R_below hO hb)
 have HN := aM hn
 clear hS hO hn
 have BT := aM (blk_new w (.cells #[.int .i64 t.f0, .int .i64 t.f1, .int .i64 t.f2, .string t.f3] 40))
 have hsz : (w.alloc (.cells #[.int .i64 t.f0, .int .i64 t.f1, .int .i64 t.f2, .string t.f3] 40)).heap.size = w.heap.size + 1 := Array.size_push ..
 obtain ⟨sc0, sc1, sc2, sc3, sc4, sf0, sf1, sf2, sf3, sf4⟩ := b5 HS.out.blk
 rcases hk with hk | hk | hk
 ·have c6 : (t.f0 == 6) = true := beq_iff_eq.mpr hk
  clear hk
  go_enter Tryz.func32, Tryz.ntmps32
  go_wp2_with (fail)
  refine norm_w (F := fun W => St w0 W g A c L i e (.slice Ao opn.length m) iv ∧ W.heap[w.heap.size]? = some (.cells (tok4 t) 40 (0, 0)) ∧ (Kd.int .i64).R 3 W w0.heap.size (fun _ => True) (.slice Ao opn.length m) opn ∧ KeepBut w W g none ∧ w.heap.size ≤ W.heap.size) ⟨HS.out, BT.out, HO.out, HK.out, (below_alloc (Below.refl w.heap.size w) _).size⟩ ?_
  clear HS BT HO HK hsz sc0 sc1 sc2 sc3 sc4 sf0 sf1 sf2 sf3 sf4
  rintro w4 ⟨hs4, hbt, ho4, hk4, hsz⟩
  have HO := aM ho4
  have HK := aM hk4
  have HB := aM hs4.below
  have BG := aM hs4.blk
  have GE := aM hs4.ge
  have hgo := aM (Kd.R_ne ho4 hs4.blk (by decide))
  have HZ := aM hsz
  obtain ⟨sc0, sc1, sc2, sc3, sc4, sf0, sf1, sf2, sf3, sf4⟩ := b5 hs4.blk
  obtain ⟨tk0, tk1, tk2, tk3, tm0, tm1, tm2, tm3⟩ := b4 (aM hbt)
  have a3 := al_cell0 (.cells #[.int .i64 t.f0] 3) sc3
  have a0 := al_cell0 (.cells #[.int .i64 t.f0] 3) tk0
  clear hs4 ho4 hk4 hbt hsz
  go_region_law (first | (refine Kd.R_append_step (Kd.int .i64) (w0 := w0) (W := w4.drew) w0.heap.size (by rfl) (.tmp 25) (.tmp 28) 47 3 (.int .i64 0) 8 rfl Tryz.underlying47 info3 rfl (by decide) (by omega) (.slice Ao opn.length m) opn t.f0 [.int .i64 t.f0] (fun _ => True) (fun _ => False) rfl rfl ?aP (fun _ hk => hk.elim) ?aF ?aO ?aB ?aS ?aL ?_; (case aP => exact rfl); (case aB => exact bQ); (case aF => exact (fun _ _ => trivial)); (case aO => exact (mQ HO)); (case aS => exact (below_size bQ)); (case aL => have := HN.out; omega); intro v5 w5 ho5 hb5 hg5 hat5; obtain ⟨A5, m5, e5⟩ := Kd.R_slice ho5; subst e5; have BG5 := aM (blk_grown (blk_drew BG.out) hg5 hgo.out); obtain ⟨c0, c1, c2, c3, c4, f0, f1, f2, f3, f4⟩ := b5 BG5.out; have HO5 := aM ho5; have HB5 := aM hb5; have HG5 := aM hg5; have HT5 := aM hat5; clear ho5 hb5 hg5 hat5))
  all_goals go_wp2_with (fail)
  all_goals go_end0
  all_goals (replace HB := HB5; have HKg := aM (KeepBut.set_ (KeepBut.set_ (KeepBut.refl w5 g none) 3 (.slice A5 (opn.length + 1) m5)) 1 (.int .i64 (i + 1))))
  all_goals exact ⟨rfl, .slice A5 (opn.length + 1) m5, ⟨bQ, GE.out, kQ⟩, (by have := R_keepT HO5.out BG5.out (by decide) HKg.out; rw [List.length_append] at this; exact this), KeepBut.set_ (KeepBut.set_ (KeepBut.trans (KeepBut.weak HK.out _) (KeepBut.of_grown HG5.out g) (.inl rfl)) 3 _) 1 _, HT5.out.imp (fun h => (by rw [List.length_append] at h; exact h)) (fun ⟨b, h1, h2⟩ => ⟨b, (by rw [List.length_append] at h1; exact h1), Nat.le_trans HZ.out h2⟩)⟩
 ·have c6 : (t.f0 == 6) = false := beq_eq_false_iff_ne.mpr (by omega)
  have c8 : (t.f0 == 8) = true := beq_iff_eq.mpr hk
  clear hk
  go_enter Tryz.func32, Tryz.ntmps32
  go_wp2_with (fail)
  refine norm_w (F := fun W => St w0 W g A c L i e (.slice Ao opn.length m) iv ∧ W.heap[w.heap.size]? = some (.cells (tok4 t) 40 (0, 0)) ∧ (Kd.int .i64).R 3 W w0.heap.size (fun _ => True) (.slice Ao opn.length m) opn ∧ KeepBut w W g none ∧ w.heap.size ≤ W.heap.size) ⟨HS.out, BT.out, HO.out, HK.out, (below_alloc (Below.refl w.heap.size w) _).size⟩ ?_
  clear HS BT HO HK hsz sc0 sc1 sc2 sc3 sc4 sf0 sf1 sf2 sf3 sf4
  rintro w4 ⟨hs4, hbt, ho4, hk4, hsz⟩
  have HO := aM ho4
  have HK := aM hk4
  have HB := aM hs4.below
  have BG := aM hs4.blk
  have GE := aM hs4.ge
  have hgo := aM (Kd.R_ne ho4 hs4.blk (by decide))
  have HZ := aM hsz
  obtain ⟨sc0, sc1, sc2, sc3, sc4, sf0, sf1, sf2, sf3, sf4⟩ := b5 hs4.blk
  obtain ⟨tk0, tk1, tk2, tk3, tm0, tm1, tm2, tm3⟩ := b4 (aM hbt)
  have a3 := al_cell0 (.cells #[.int .i64 t.f0] 3) sc3
  have a0 := al_cell0 (.cells #[.int .i64 t.f0] 3) tk0
  clear hs4 ho4 hk4 hbt hsz
  go_region_law (first | (refine Kd.R_append_step (Kd.int .i64) (w0 := w0) (W := w4.drew) w0.heap.size (by rfl) (.tmp 25) (.tmp 28) 47 3 (.int .i64 0) 8 rfl Tryz.underlying47 info3 rfl (by decide) (by omega) (.slice Ao opn.length m) opn t.f0 [.int .i64 t.f0] (fun _ => True) (fun _ => False) rfl rfl ?aP (fun _ hk => hk.elim) ?aF ?aO ?aB ?aS ?aL ?_; (case aP => exact rfl); (case aB => exact bQ); (case aF => exact (fun _ _ => trivial)); (case aO => exact (mQ HO)); (case aS => exact (below_size bQ)); (case aL => have := HN.out; omega); intro v5 w5 ho5 hb5 hg5 hat5; obtain ⟨A5, m5, e5⟩ := Kd.R_slice ho5; subst e5; have BG5 := aM (blk_grown (blk_drew BG.out) hg5 hgo.out); obtain ⟨c0, c1, c2, c3, c4, f0, f1, f2, f3, f4⟩ := b5 BG5.out; have HO5 := aM ho5; have HB5 := aM hb5; have HG5 := aM hg5; have HT5 := aM hat5; clear ho5 hb5 hg5 hat5))
  all_goals go_wp2_with (fail)
  all_goals go_end0
  all_goals (replace HB := HB5; have HKg := aM (KeepBut.set_ (KeepBut.set_ (KeepBut.refl w5 g none) 3 (.slice A5 (opn.length + 1) m5)) 1 (.int .i64 (i + 1))))
  all_goals exact ⟨rfl, .slice A5 (opn.length + 1) m5, ⟨bQ, GE.out, kQ⟩, (by have := R_keepT HO5.out BG5.out (by decide) HKg.out; rw [List.length_append] at this; exact this), KeepBut.set_ (KeepBut.set_ (KeepBut.trans (KeepBut.weak HK.out _) (KeepBut.of_grown HG5.out g) (.inl rfl)) 3 _) 1 _, HT5.out.imp (fun h => (by rw [List.length_append] at h; exact h)) (fun ⟨b, h1, h2⟩ => ⟨b, (by rw [List.length_append] at h1; exact h1), Nat.le_trans HZ.out h2⟩)⟩
 ·have c6 : (t.f0 == 6) = false := beq_eq_false_iff_ne.mpr (by omega)
  have c8 : (t.f0 == 8) = false := beq_eq_false_iff_ne.mpr (by omega)
  have c10 : (t.f0 == 10) = true := beq_iff_eq.mpr hk
  clear hk
  go_enter Tryz.func32, Tryz.ntmps32
  go_wp2_with (fail)
  refine norm_w (F := fun W => St w0 W g A c L i e (.slice Ao opn.length m) iv ∧ W.heap[w.heap.size]? = some (.cells (tok4 t) 40 (0, 0)) ∧ (Kd.int .i64).R 3 W w0.heap.size (fun _ => True) (.slice Ao opn.length m) opn ∧ KeepBut w W g none ∧ w.heap.size ≤ W.heap.size) ⟨HS.out, BT.out, HO.out, HK.out, (below_alloc (Below.refl w.heap.size w) _).size⟩ ?_
  clear HS BT HO HK hsz sc0 sc1 sc2 sc3 sc4 sf0 sf1 sf2 sf3 sf4
  rintro w4 ⟨hs4, hbt, ho4, hk4, hsz⟩
  have HO := aM ho4
  have HK := aM hk4
  have HB := aM hs4.below
  have BG := aM hs4.blk
  have GE := aM hs4.ge
  have hgo := aM (Kd.R_ne ho4 hs4.blk (by decide))
  have HZ := aM hsz
  obtain ⟨sc0, sc1, sc2, sc3, sc4, sf0, sf1, sf2, sf3, sf4⟩ := b5 hs4.blk
  obtain ⟨tk0, tk1, tk2, tk3, tm0, tm1, tm2, tm3⟩ := b4 (aM hbt)
  have a3 := al_cell0 (.cells #[.int .i64 t.f0] 3) sc3
  have a0 := al_cell0 (.cells #[.int .i64 t.f0] 3) tk0
  clear hs4 ho4 hk4 hbt hsz
  go_region_law (first | (refine Kd.R_append_step (Kd.int .i64) (w0 := w0) (W := w4.drew) w0.heap.size (by rfl) (.tmp 25) (.tmp 28) 47 3 (.int .i64 0) 8 rfl Tryz.underlying47 info3 rfl (by decide) (by omega) (.slice Ao opn.length m) opn t.f0 [.int .i64 t.f0] (fun _ => True) (fun _ => False) rfl rfl ?aP (fun _ hk => hk.elim) ?aF ?aO ?aB ?aS ?aL ?_; (case aP => exact rfl); (case aB => exact bQ); (case aF => exact (fun _ _ => trivial)); (case aO => exact (mQ HO)); (case aS => exact (below_size bQ)); (case aL => have := HN.out; omega); intro v5 w5 ho5 hb5 hg5 hat5; obtain ⟨A5, m5, e5⟩ := Kd.R_slice ho5; subst e5; have BG5 := aM (blk_grown (blk_drew BG.out) hg5 hgo.out); obtain ⟨c0, c1, c2, c3, c4, f0, f1, f2, f3, f4⟩ := b5 BG5.out; have HO5 := aM ho5; have HB5 := aM hb5; have HG5 := aM hg5; have HT5 := aM hat5; clear ho5 hb5 hg5 hat5))
  all_goals go_wp2_with (fail)
  all_goals go_end0
  all_goals (replace HB := HB5; have HKg := aM (KeepBut.set_ (KeepBut.set_ (KeepBut.refl w5 g none) 3 (.slice A5 (opn.length + 1) m5)) 1 (.int .i64 (i + 1))))
  all_goals exact ⟨rfl, .slice A5 (opn.length + 1) m5, ⟨bQ, GE.out, kQ⟩, (by have := R_keepT HO5.out BG5.out (by decide) HKg.out; rw [List.length_append] at this; exact this), KeepBut.set_ (KeepBut.set_ (KeepBut.trans (KeepBut.weak HK.out _) (KeepBut.of_grown HG5.out g) (.inl rfl)) 3 _) 1 _, HT5.out.imp (fun h => (by rw [List.length_append] at h; exact h)) (fun ⟨b, h1, h2⟩ => ⟨b, (by rw [List.length_append] at h1; exact h1), Nat.le_trans HZ.out h2⟩)⟩
end
end Go.Proofs.YtjplnhdplpiogaaGreatDoor.M
end
section
namespace Go.Proofs.YtjplnhdplpiogaaGreatDoor.M
open Go.RowKit Go.Proofs.YtjplnhdplpiogaaGreatDoorW.PrintWords Go.Proofs.YtjplnhdplpiogaaGreatDoorW.PrintLast Go.Proofs.YtjplnhdplpiogaaGreatDoorW.PrintMore
set_option linter.unusedVariables false
set_option linter.unusedSimpArgs false
set_option maxRecDepth 100000
set_option maxHeartbeats 8000000
section
variable {w0 w : World} {g : Nat} {A : Option Addr} {c : Nat} {L : List S40} {i e : Int} {ov iv : Value}
theorem rd_last (pre : List Int) (k : Int) : rd (pre ++ [k]) (pre.length : Int) = k := by simp [rd]
theorem pairs_close (hS : St w0 w g A c L i e ov iv) (h0 : 0 ≤ i) (h1 : i < 9223372036854775807) (pre : List Int) (k : Int) (hO : (Kd.int .i64).R 3 w w0.heap.size (fun _ => True) ov (pre ++ [k])) (t : S40) (hk : t.f0 = 7 ∨ t.f0 = 9 ∨ t.f0 = 11) (ht : t.f0 = k + 1) :
  Calls Tryz.prog 32 #[.pointer (some ⟨g, 0, none⟩), .agg (tok4 t)] w fun x w' => x = .returned (.tuple #[]) ∧ ∃ ov', St w0 w' g A c L (i + 1) e ov' iv ∧ (Kd.int .i64).R 3 w' w0.heap.size (fun _ => True) ov' pre ∧ KeepBut w w' g none ∧ ov'.ownBlock = ov.ownBlock := by
 obtain ⟨Ao, m, rfl⟩ := Kd.R_slice hO
 have hlen : (pre ++ [k]).length = pre.length + 1 := by simp
 have hO2 := hO
 rw [hlen] at hO2 hS ⊢
 have hu40 := Tryz.underlying40
 have hu47 := Tryz.underlying47
 have hu58 := Tryz.underlying58
 have hw : wrap64 (i + 1) = i + 1 := by unfold wrap64; omega
 have hmx : (pre.length : Int) + 1 ≤ 9223372036854775807 := by have := (Kd.C_max (Kd.R_reads' hO).2.2); rw [hlen] at this; omega
 have hw2 : wrap64 (((pre.length : Int) + 1) - 1) = pre.length := by unfold wrap64; omega
 have hw3 : wrap64 (k + 1) = k + 1 := by unfold wrap64; omega
 have hn0 : (((pre.length : Int) + 1) == 0) = false := beq_eq_false_iff_ne.mpr (by omega)
 have hb : Below w.heap.size w (w.alloc (.cells #[.int .i64 t.f0, .int .i64 t.f1, .int .i64 t.f2, .string t.f3] 40)) := below_alloc (Below.refl _ _) _
 obtain ⟨ad, hA, hx⟩ := Kd.at_int (Kd.C_below (Kd.R_reads' hO).2.2 hb) (pre.length : Int) (by omega) (by rw [hlen]; omega)
 subst hA
 rw [rd_last] at hx
 have hxx : (((pre.length : Nat) : Int)).toNat = pre.length := by omega
 rw [hxx] at hx
 have HS := aM (hS.of_below hb)
 have HK := aM (KeepBut.of_below hb g none)
 have HO := aM (Kd.R_below hO hb)
 obtain ⟨i3, hi3, -⟩ : ∃ i3, Tryz.prog.info? 3 = some i3 ∧ True := by cases h : Tryz.prog.info? 3 with
  | none => have := info3; rw [h] at this; cases this
  | some x => exact ⟨x, rfl, trivial⟩
 have hcap : pre.length + 1 ≤ m := by have := (Kd.R_reads' hO).2.1; rw [hlen] at this; exact this
 have hcut := cut_to (P := Tryz.prog) 47 3 .i64 Tryz.underlying47 hi3 (some ad) (pre.length + 1) m (pre.length : Int) (by omega) (by omega) hcap
 have p9 := eq_true (show (0 : Int) ≤ pre.length by omega)
 have q9 := eq_true (show (pre.length : Int) < pre.length + 1 by omega)
 have BT := aM (blk_new w (.cells #[.int .i64 t.f0, .int .i64 t.f1, .int .i64 t.f2, .string t.f3] 40))
 have hkk : ((k + 1) != t.f0) = false := bne_eq_false_iff_eq.mpr ht.symm
 clear hS hO hO2 hb ht
 obtain ⟨sc0, sc1, sc2, sc3, sc4, sf0, sf1, sf2, sf3, sf4⟩ := b5 HS.out.blk
 obtain ⟨tk0, tk1, tk2, tk3, tm0, tm1, tm2, tm3⟩ := b4 BT
 have c6 : (t.f0 == 6) = false := beq_eq_false_iff_ne.mpr (by omega)
 have c8 : (t.f0 == 8) = false := beq_eq_false_iff_ne.mpr (by omega)
 have c10 : (t.f0 == 10) = false := beq_eq_false_iff_ne.mpr (by omega)
 rcases hk with hk | hk | hk
 ·have c7 : (t.f0 == 7) = true := beq_iff_eq.mpr hk
  clear hk
  go_enter Tryz.func32, Tryz.ntmps32
  go_wp2_with (fail)
  go_quiet (fail)
  try go_wp2_with (fail)
  go_end0
  have HB := aM HS.out.below
  have GE := aM HS.out.ge
  have BG := aM HS.out.blk
  have HR := Kd.R_take HO.out (m := pre.length) (by rw [hlen]; omega)
  rw [List.take_left] at HR
  have HR2 := aM (Kd.R_drewN HR nq)
  have BG2 := aM (blk_drewN BG.out nq)
  exact ⟨rfl, .slice (some ad) pre.length m, ⟨bQ, GE.out, kQ⟩, R_keepT HR2.out BG2.out (by decide) (KeepBut.set_ (KeepBut.set_ (KeepBut.refl _ g none) 3 _) 1 _), kpQ, rfl⟩
 ·have c7 : (t.f0 == 7) = false := beq_eq_false_iff_ne.mpr (by omega)
  have c9 : (t.f0 == 9) = true := beq_iff_eq.mpr hk
  clear hk
  go_enter Tryz.func32, Tryz.ntmps32
  go_wp2_with (fail)
  go_quiet (fail)
  try go_wp2_with (fail)
  go_end0
  have HB := aM HS.out.below
  have GE := aM HS.out.ge
  have BG := aM HS.out.blk
  have HR := Kd.R_take HO.out (m := pre.length) (by rw [hlen]; omega)
  rw [List.take_left] at HR
  have HR2 := aM (Kd.R_drewN HR nq)
  have BG2 := aM (blk_drewN BG.out nq)
  exact ⟨rfl, .slice (some ad) pre.length m, ⟨bQ, GE.out, kQ⟩, R_keepT HR2.out BG2.out (by decide) (KeepBut.set_ (KeepBut.set_ (KeepBut.refl _ g none) 3 _) 1 _), kpQ, rfl⟩
 ·have c7 : (t.f0 == 7) = false := beq_eq_false_iff_ne.mpr (by omega)
  have c9 : (t.f0 == 9) = false := beq_eq_false_iff_ne.mpr (by omega)
  have c11 : (t.f0 == 11) = true := beq_iff_eq.mpr hk
  clear hk
  go_enter Tryz.func32, Tryz.ntmps32
  go_wp2_with (fail)
  go_quiet (fail)
  try go_wp2_with (fail)
  go_end0
  have HB := aM HS.out.below
  have GE := aM HS.out.ge
  have BG := aM HS.out.blk
  have HR := Kd.R_take HO.out (m := pre.length) (by rw [hlen]; omega)
  rw [List.take_left] at HR
  have HR2 := aM (Kd.R_drewN HR nq)
  have BG2 := aM (blk_drewN BG.out nq)
  exact ⟨rfl, .slice (some ad) pre.length m, ⟨bQ, GE.out, kQ⟩, R_keepT HR2.out BG2.out (by decide) (KeepBut.set_ (KeepBut.set_ (KeepBut.refl _ g none) 3 _) 1 _), kpQ, rfl⟩
end
end Go.Proofs.YtjplnhdplpiogaaGreatDoor.M
end
section
namespace Go.Proofs.YtjplnhdplpiogaaGreatDoor.M
open Go.RowKit Go.Proofs.YtjplnhdplpiogaaGreatDoorW.PrintWords Go.Proofs.YtjplnhdplpiogaaGreatDoorW.PrintLast Go.Proofs.YtjplnhdplpiogaaGreatDoorW.PrintMore
set_option linter.unusedVariables false
set_option linter.unusedSimpArgs false
set_option maxRecDepth 100000
set_option maxHeartbeats 8000000
theorem info43 : (Tryz.prog.info? 43).map (fun i => (i.zero, i.size, i.bytes)) = some (some (.agg #[.int .i64 0, .int .i64 0, .string (⟨#[]⟩ : ByteArray), .int .i64 0, .int .i64 0, .int .i64 0, .string (⟨#[]⟩ : ByteArray), .slice none 0 0]), 8, 96) := by kernel_rfl
theorem info50 : (Tryz.prog.info? 50).map (fun i => (i.zero, i.size, i.bytes)) = some (some (.agg #[.int .i64 0, .int .i64 0, .int .i64 0, .int .i64 0, .int .i64 0, .slice none 0 0, .slice none 0 0]), 7, 88) := by kernel_rfl
section
variable {w0 w W w1 : World} {g : Nat} {A : Option Addr} {c : Nat} {L : List S40} {i e : Int} {ov iv : Value} {row : Option Nat}
theorem St.drew (h : St w0 w g A c L i e ov iv) : St w0 w.drew g A c L i e ov iv := ⟨below_drew1 h.below, h.ge, blk_drew h.blk⟩
theorem St.drewN (h : St w0 w g A c L i e ov iv) (n : Nat) : St w0 (w.drewN n) g A c L i e ov iv := ⟨pw_below_drewN h.below n, h.ge, blk_drewN h.blk n⟩
theorem St.alloc (h : St w0 w g A c L i e ov iv) (o : Obj) : St w0 (w.alloc o) g A c L i e ov iv := h.of_below (below_alloc (Below.refl _ _) o)
theorem stC (h : Aside0 (St w0 w g A c L i e ov iv)) (c' : St w0 w g A c L i e ov iv → St w0 W g A c L i e ov iv := by intro h; (with_reducible repeat first | exact h | apply St.drewN | apply St.drew | apply St.alloc)) : St w0 W g A c L i e ov iv := c' h.out
theorem stQ (h : Aside0 (St w0 w g A c L i e ov iv)) (hb : Below W.heap.size W w1) (c' : St w0 w g A c L i e ov iv → St w0 W g A c L i e ov iv := by intro h; (with_reducible repeat first | exact h | apply St.drewN | apply St.drew | apply St.alloc)) : Aside0 (St w0 w1 g A c L i e ov iv) := ⟨(c' h.out).of_below hb⟩
theorem ownrow {α : Type} {d : Kd α} {e base B : Nat} {w : World} {ok : Nat → Prop} {v : Value} {xs : List α} (h : d.R e w base ok v xs) (hok : ∀ k, ok k → B ≤ k) : v.ownBlock = none ∨ ∃ b, v.ownBlock = some b ∧ B ≤ b := by
 cases hv : v.ownBlock with
 | none => exact .inl rfl
 | some b => exact .inr ⟨b, rfl, hok b (h.1 b hv)⟩
theorem kK2 {w W w1 : World} {g : Nat} {o : Obj} (h : Aside0 (w.heap[g]? = some o)) (hb : Below W.heap.size W w1) (c' : w.heap[g]? = some o → W.heap[g]? = some o := by intro h; (with_reducible repeat first | exact h | apply blk_drewN | apply blk_drew | apply blk_alloc)) : Aside0 (w1.heap[g]? = some o) := ⟨blk_below (c' h.out) hb⟩
theorem keepQ (h : Aside0 (KeepBut w0 w g row)) (hb : Below W.heap.size W w1) (c' : KeepBut w0 w g row → KeepBut w0 W g row := by intro h; (with_reducible repeat first | exact h | apply keep_drewN | apply keep_drew | apply keep_alloc)) : Aside0 (KeepBut w0 w1 g row) := ⟨by
 refine ⟨Nat.le_trans (c' h.out).1 hb.size, fun i hi hg hr => ?_⟩
 exact (hb.block i (Nat.lt_of_lt_of_le hi (c' h.out).1)).trans ((c' h.out).2 i hi hg hr)⟩
end
abbrev endOf (kind : Int) : ByteArray := (⟨#[101, 110, 100]⟩ : ByteArray) ++ nameOf kind
end Go.Proofs.YtjplnhdplpiogaaGreatDoor.M
end
section
namespace Go.Proofs.YtjplnhdplpiogaaGreatDoor.M
open Go.RowKit Go.Proofs.YtjplnhdplpiogaaGreatDoorW.PrintWords Go.Proofs.YtjplnhdplpiogaaGreatDoorW.PrintLast Go.Proofs.YtjplnhdplpiogaaGreatDoorW.PrintMore
set_option linter.unusedVariables false
set_option linter.unusedSimpArgs false
set_option maxRecDepth 100000
set_option maxHeartbeats 8000000
theorem norm_c {P : Program} {f : FuncId} {args : Array Value} {R : Ending → World → Prop} {W : World} (F : World → Prop) (hF : F W) (h : ∀ W', F W' → Calls P f args W' R) : Calls P f args W R := h W hF
theorem stB {w W : World} {g : Nat} {o : Obj} (h : Aside0 (w.heap[g]? = some o)) (c' : w.heap[g]? = some o → W.heap[g]? = some o := by intro h; (with_reducible repeat first | exact h | apply blk_drewN | apply blk_drew | apply blk_alloc)) : W.heap[g]? = some o := c' h.out
def aheadF (L : List S40) (i n : Int) : S40 := if i < n then ⟨0, 0, 0, ⟨#[]⟩⟩ else rd_T40 L (i - n)
section
variable {w0 w : World} {g : Nat} {A : Option Addr} {c : Nat} {L : List S40} {i e : Int} {ov iv : Value}
theorem ahead_calls (hC : Kd.C k40 w0 A L.length L) (hS : St w0 w g A c L i e ov iv) (n : Int) (hn : 0 ≤ n ∧ n ≤ 2) (h0 : 0 ≤ i) (hi1 : i < L.length) :
  Calls Tryz.prog 54 #[.pointer (some ⟨g, 0, none⟩), .int .i64 n] w fun x w' => x = .returned (.agg (tok4 (aheadF L i n))) ∧ Below w.heap.size w w' := by
 unfold aheadF
 have hL : (L.length : Int) ≤ 9223372036854775807 := by have := Kd.C_max hC; omega
 by_cases h : i < n
 ·rw [if_pos h]
  exact ahead_none hS n h
 ·rw [if_neg h]
  exact ahead_some hC hS n _ rfl h (by omega) (by omega) (by omega)
theorem word_def (hC : Kd.C k40 w0 A L.length L) (hS : St w0 w g A c L i e ov iv) (h0 : 0 ≤ i) (hi1 : i < L.length) (t : S40) (hd : t.f3.toList = [100, 101, 102]) (hb2 : (aheadF L i 2).f0 = 2) (ha1 : (aheadF L i 1).f0 = 1 ∨ (aheadF L i 1).f0 = 2 ∨ (aheadF L i 1).f0 = 5) (its : List S43) (hI : k43.R 43 w w0.heap.size (fun k => some k ≠ ov.ownBlock) iv its) (hlen : its.length < 1000000) (hO : ∀ b, ov.ownBlock = some b → b < w.heap.size) :
  Calls Tryz.prog 31 #[.pointer (some ⟨g, 0, none⟩), .agg (tok4 t)] w fun x w' => x = .returned (.tuple #[]) ∧ ∃ iv', St w0 w' g A c L (i + 1) e ov iv' ∧ k43.R 43 w' w0.heap.size (fun k => some k ≠ ov.ownBlock) iv' (its ++ [⟨0, t.f1, (aheadF L i 2).f3, aheadF L i 1, []⟩]) ∧ KeepBut w w' g iv.ownBlock ∧ (iv'.ownBlock = iv.ownBlock ∨ ∃ b, iv'.ownBlock = some b ∧ w.heap.size ≤ b) := by
 have hu40 := Tryz.underlying40
 have hu43 := Tryz.underlying43
 have hu58 := Tryz.underlying58
 have hL : (L.length : Int) ≤ 9223372036854775807 := by have := Kd.C_max hC; omega
 have hw : wrap64 (i + 1) = i + 1 := by unfold wrap64; omega
 have hS0 := aM hS.blk
 have hS0' := aM hS.below.size
 have hIlt := aM (Kd.R_lt hI)
 obtain ⟨Ai, ci, hiv⟩ := Kd.R_slice hI
 subst hiv
 obtain ⟨a, hA⟩ : ∃ a, a = aheadF L i 1 := ⟨_, rfl⟩
 obtain ⟨b, hB⟩ : ∃ b, b = aheadF L i 2 := ⟨_, rfl⟩
 have hdd : (t.f3.toList == [100, 101, 102]) = true := beq_iff_eq.mpr hd
 have hbb : ((aheadF L i 2).f0 == 2) = true := beq_iff_eq.mpr hb2
 have hval := aM (show syn_value.f (aheadF L i 1).f0 (aheadF L i 1).f1 (aheadF L i 1).f2 (aheadF L i 1).f3 = some true by
  unfold syn_value.f
  rcases ha1 with h | h | h <;> rw [h] <;> rfl)
 have hb : Below w.heap.size w (w.alloc (.cells #[.int .i64 t.f0, .int .i64 t.f1, .int .i64 t.f2, .string t.f3] 40)) := below_alloc (Below.refl _ _) _
 have HS := aM (hS.of_below hb)
 have BT := aM (blk_new w (.cells #[.int .i64 t.f0, .int .i64 t.f1, .int .i64 t.f2, .string t.f3] 40))
 have HK := aM (KeepBut.of_below hb g none)
 have HI := aM hI
 clear hS hI hb hd hb2 ha1
 go_enter Tryz.func31, Tryz.ntmps31
 go_wp2_with (first | (go_at_call 54; (with_reducible refine (ahead_calls hC (stC HS) 1 (by decide) h0 hi1).mono ?_); rintro x wp1 ⟨rfl, hbp⟩; replace HS := stQ HS hbp; replace BT := kK2 BT hbp; replace HK := keepQ HK hbp; clear hbp) | (go_at_call 54; (with_reducible refine (ahead_calls hC (stC HS) 2 (by decide) h0 hi1).mono ?_); rintro x wp2 ⟨rfl, hbp⟩; replace HS := stQ HS hbp; replace BT := kK2 BT hbp; replace HK := keepQ HK hbp; clear hbp) | ((with_reducible refine gD 4 ?_); refine bE 4 (cs := #[.int .i64 0, .int .i64 0, .int .i64 0, .string (⟨#[]⟩ : ByteArray)]) (t := 40) ?_; intro ga hg wga hbox hb; have Nga := aM (show g ≠ ga by rw [hg]; exact Nat.ne_of_lt (blk_lt (stC HS).blk)); have Tga := aM (show w.heap.size < ga by rw [hg]; exact blk_lt (stB BT)); replace BT := kK2 BT hb; have BA := aM hbox; replace HS := stQ HS hb; replace HK := keepQ HK hb; clear hb hbox hg) | ((with_reducible refine gD 5 ?_); refine bE 5 (cs := #[.int .i64 0, .int .i64 0, .int .i64 0, .string (⟨#[]⟩ : ByteArray)]) (t := 40) ?_; intro gb hg wgb hbox hb; have Ngb := aM (show g ≠ gb by rw [hg]; exact Nat.ne_of_lt (blk_lt (stC HS).blk)); have Tgb := aM (show w.heap.size < gb by rw [hg]; exact blk_lt (stB BT)); have NAB := aM (show ga ≠ gb by rw [hg]; exact Nat.ne_of_lt (blk_lt (stB BA))); replace BA := kK2 BA hb; replace BT := kK2 BT hb; have BB := aM hbox; replace HS := stQ HS hb; replace HK := keepQ HK hb; clear hb hbox hg; obtain ⟨ak0, ak1, ak2, ak3, am0, am1, am2, am3⟩ := b4 BA; obtain ⟨bk0, bk1, bk2, bk3, bm0, bm1, bm2, bm3⟩ := b4 BB; obtain ⟨tk0, tk1, tk2, tk3, tm0, tm1, tm2, tm3⟩ := b4 BT; have q1 := NAB.out; have q2 := Ne.symm NAB.out; have q3 := Nat.ne_of_lt Tga.out; have q4 := Ne.symm q3; have q5 := Nat.ne_of_lt Tgb.out; have q6 := Ne.symm q5))
 have NA := aM (Ne.symm Nga.out)
 have NB2 := aM (Ne.symm Ngb.out)
 have NAB2 := aM q2
 have NTA := aM q3
 have NTB := aM q5
 have NTA2 := aM q4
 have NTB2 := aM q6
 have GA := aM (Nat.le_trans HS.out.below.size (Nat.le_refl _))
 have Ga := aM (show w0.heap.size ≤ ga from Nat.le_trans hS0'.out (Nat.le_of_lt Tga.out))
 have Gb := aM (show w0.heap.size ≤ gb from Nat.le_trans hS0'.out (Nat.le_of_lt Tgb.out))
 have Gwa := aM (Nat.le_of_lt Tga.out)
 have Gwb := aM (Nat.le_of_lt Tgb.out)
 have HB := aM HS.out.below
 have BG := aM HS.out.blk
 refine norm_c (F := fun W => St w0 W g A c L i e ov (.slice Ai its.length ci) ∧ W.heap[w.heap.size]? = some (.cells #[.int .i64 t.f0, .int .i64 t.f1, .int .i64 t.f2, .string t.f3] 40 (0, 0)) ∧ W.heap[ga]? = some (.cells #[.int .i64 (aheadF L i 1).f0, .int .i64 (aheadF L i 1).f1, .int .i64 (aheadF L i 1).f2, .string (aheadF L i 1).f3] 40 (0, 0)) ∧ W.heap[gb]? = some (.cells #[.int .i64 (aheadF L i 2).f0, .int .i64 (aheadF L i 2).f1, .int .i64 (aheadF L i 2).f2, .string (aheadF L i 2).f3] 40 (0, 0)) ∧ KeepBut w W g none) ⟨⟨bQ, HS.out.ge, kQ⟩, kQ, kQ, kQ, kpQ⟩ ?_
 clear HS BT BA BB HK HB BG ak0 ak1 ak2 ak3 am0 am1 am2 am3 bk0 bk1 bk2 bk3 bm0 bm1 bm2 bm3 tk0 tk1 tk2 tk3 tm0 tm1 tm2 tm3
 rintro w3 ⟨hs3, bt3, ba3, bb3, hk3⟩
 have HS := aM hs3
 have BT := aM bt3
 have BA := aM ba3
 have BB := aM bb3
 have HK := aM hk3
 clear hs3 bt3 ba3 bb3 hk3
 (with_reducible refine (begun_calls _ _).mono ?_)
 rintro x w5 ⟨rfl, hbp⟩
 replace HS := stQ HS hbp
 replace BT := kK2 BT hbp
 replace BA := kK2 BA hbp
 replace BB := kK2 BB hbp
 replace HK := keepQ HK hbp
 clear hbp
 obtain ⟨kd, kbg⟩ : ∃ k b, begunF t.f3 = (k, b) := ⟨_, _, rfl⟩
 obtain ⟨bg, hbg⟩ := kbg
 rw [hbg]
 obtain ⟨sc0, sc1, sc2, sc3, sc4, sf0, sf1, sf2, sf3, sf4⟩ := b5 HS.out.blk
 obtain ⟨ak0, ak1, ak2, ak3, am0, am1, am2, am3⟩ := b4 BA
 obtain ⟨bk0, bk1, bk2, bk3, bm0, bm1, bm2, bm3⟩ := b4 BB
 obtain ⟨tk0, tk1, tk2, tk3, tm0, tm1, tm2, tm3⟩ := b4 BT
 have q7 := Nga.out
 have q8 := Ngb.out
 have q9 := NA.out
 have q10 := NB2.out
 have NTG := aM (show w.heap.size ≠ g from Nat.ne_of_gt (by have := blk_lt hS0.out; exact this))
 have q11 := NTG.out
 have q12 := Ne.symm NTG.out
 go_wp2_with (first | (go_at_call 56; (with_reducible refine (syn_value.calls _ _ _ _ _ _ hval.out).mono ?_); rintro x wv ⟨rfl, hdv⟩))
 have HIr := aM (R_keepT HI.out hS0.out (by decide) HK.out)
 have GE := aM HS.out.ge
 have HB := aM HS.out.below
 have BG := aM HS.out.blk
 have NG3 := aM q12
 have HKs := aM (KeepBut.set_ (KeepBut.refl w5 g none) 1 (.int .i64 (i + 1)))
 refine norm_w (F := fun W => St w0 W g A c L (i + 1) e ov (.slice Ai its.length ci) ∧ W.heap[w.heap.size]? = some (.cells #[.int .i64 t.f0, .int .i64 t.f1, .int .i64 t.f2, .string t.f3] 40 (0, 0)) ∧ W.heap[ga]? = some (.cells #[.int .i64 (aheadF L i 1).f0, .int .i64 (aheadF L i 1).f1, .int .i64 (aheadF L i 1).f2, .string (aheadF L i 1).f3] 40 (0, 0)) ∧ W.heap[gb]? = some (.cells #[.int .i64 (aheadF L i 2).f0, .int .i64 (aheadF L i 2).f1, .int .i64 (aheadF L i 2).f2, .string (aheadF L i 2).f3] 40 (0, 0)) ∧ k43.R 43 W w0.heap.size (fun k => some k ≠ ov.ownBlock) (.slice Ai its.length ci) its ∧ KeepBut w W g none) ⟨(⟨bQ, HS.out.ge, kQ⟩ : St w0 (w5.setCell ⟨g, 1, none⟩ (.int .i64 (i + 1))) g A c L (i + 1) e ov (.slice Ai its.length ci)).of_below hdv, blk_below kQ hdv, blk_below kQ hdv, blk_below kQ hdv, Kd.R_below (R_keepT HIr.out HS.out.blk (by decide) HKs.out) hdv, KeepBut.trans (KeepBut.set_ HK.out 1 _) (KeepBut.of_below hdv g none) (.inl rfl)⟩ ?_
 clear hdv HS BT BA BB HK HB BG HIr HKs HI ak0 ak1 ak2 ak3 am0 am1 am2 am3 bk0 bk1 bk2 bk3 bm0 bm1 bm2 bm3 tk0 tk1 tk2 tk3 tm0 tm1 tm2 tm3 sc0 sc1 sc2 sc3 sc4 sf0 sf1 sf2 sf3 sf4
 rintro w4 ⟨hs4, bt4, ba4, bb4, hi4, hk4⟩
 have HS := aM hs4
 have HI := aM hi4
 have HK := aM hk4
 have HB := aM hs4.below
 have BG := aM hs4.blk
 have hgo := aM (Kd.R_ne hi4 hs4.blk (by decide))
 obtain ⟨sc0, sc1, sc2, sc3, sc4, sf0, sf1, sf2, sf3, sf4⟩ := b5 HS.out.blk
 obtain ⟨ak0, ak1, ak2, ak3, am0, am1, am2, am3⟩ := b4 (aM ba4)
 obtain ⟨bk0, bk1, bk2, bk3, bm0, bm1, bm2, bm3⟩ := b4 (aM bb4)
 obtain ⟨tk0, tk1, tk2, tk3, tm0, tm1, tm2, tm3⟩ := b4 (aM bt4)
 have BT4 := aM bt4
 have BA4 := aM ba4
 have BB4 := aM bb4
 have hgt := aM (Kd.R_ne hi4 bt4 (by decide))
 have hga := aM (Kd.R_ne hi4 ba4 (by decide))
 have hgb := aM (Kd.R_ne hi4 bb4 (by decide))
 clear hs4 bt4 ba4 bb4 hi4 hk4
 have hfr := aM (fun (q : Nat) (hq : w.heap.size ≤ q) => (show some q ≠ ov.ownBlock from fun he => absurd (hO q he.symm) (by omega)))
 have l0 := al_cell0 (.cells #[.int .i64 0, .int .i64 t.f1, .string (aheadF L i 2).f3, .int .i64 (aheadF L i 1).f0, .int .i64 (aheadF L i 1).f1, .int .i64 (aheadF L i 1).f2, .string (aheadF L i 1).f3, .slice none 0 0] 43) sc4
 have l1 := al_cell0 (.cells #[.int .i64 0, .int .i64 t.f1, .string (aheadF L i 2).f3, .int .i64 (aheadF L i 1).f0, .int .i64 (aheadF L i 1).f1, .int .i64 (aheadF L i 1).f2, .string (aheadF L i 1).f3, .slice none 0 0] 43) tk1
 have l2 := al_cell0 (.cells #[.int .i64 0, .int .i64 t.f1, .string (aheadF L i 2).f3, .int .i64 (aheadF L i 1).f0, .int .i64 (aheadF L i 1).f1, .int .i64 (aheadF L i 1).f2, .string (aheadF L i 1).f3, .slice none 0 0] 43) bk3
 have l3 := al_cell0 (.cells #[.int .i64 0, .int .i64 t.f1, .string (aheadF L i 2).f3, .int .i64 (aheadF L i 1).f0, .int .i64 (aheadF L i 1).f1, .int .i64 (aheadF L i 1).f2, .string (aheadF L i 1).f3, .slice none 0 0] 43) ak0
 have l4 := al_cell0 (.cells #[.int .i64 0, .int .i64 t.f1, .string (aheadF L i 2).f3, .int .i64 (aheadF L i 1).f0, .int .i64 (aheadF L i 1).f1, .int .i64 (aheadF L i 1).f2, .string (aheadF L i 1).f3, .slice none 0 0] 43) ak1
 have l5 := al_cell0 (.cells #[.int .i64 0, .int .i64 t.f1, .string (aheadF L i 2).f3, .int .i64 (aheadF L i 1).f0, .int .i64 (aheadF L i 1).f1, .int .i64 (aheadF L i 1).f2, .string (aheadF L i 1).f3, .slice none 0 0] 43) ak2
 have l6 := al_cell0 (.cells #[.int .i64 0, .int .i64 t.f1, .string (aheadF L i 2).f3, .int .i64 (aheadF L i 1).f0, .int .i64 (aheadF L i 1).f1, .int .i64 (aheadF L i 1).f2, .string (aheadF L i 1).f3, .slice none 0 0] 43) ak3
 refine wp_region_noPanic ?_
 refine wp_region_held_drew (S := (fun W : World => W.cell? ⟨w.heap.size, 1, none⟩ = some (.int .i64 t.f1) ∧ W.cell? ⟨gb, 3, none⟩ = some (.string (aheadF L i 2).f3) ∧ W.cell? ⟨ga, 0, none⟩ = some (.int .i64 (aheadF L i 1).f0) ∧ W.cell? ⟨ga, 1, none⟩ = some (.int .i64 (aheadF L i 1).f1) ∧ W.cell? ⟨ga, 2, none⟩ = some (.int .i64 (aheadF L i 1).f2) ∧ W.cell? ⟨ga, 3, none⟩ = some (.string (aheadF L i 1).f3))) (by kernel_rfl) ?_ (fun hHeld => ?_)
 ·(first | exact ⟨tk1, bk3, ak0, ak1, ak2, ak3⟩ | exact ⟨l1, l2, l3, l4, l5, l6⟩ | exact ⟨ty1, by3, ay0, ay1, ay2, ay3⟩ | (simp [go_sem, *]; done))
 refine wpAnyH_take (i := 0) (oi := _) (v := ?v0_1) rfl (by kernel_rfl) (by kernel_rfl) (by kernel_rfl) (fun _ _ _ h => h) (Or.inl ⟨by rfl, ?y0_1⟩) (by assumption) ?r0_1
 case y0_1 => (intro w hSw; (try dsimp only at hSw); go_simp; (try with_reducible rfl))
 try simp only [Act.put, List.setIfInBounds_toArray, List.set_cons_zero, List.set_cons_succ]
 refine wpAnyH_take (i := 1) (oi := _) (v := ?v1_2) rfl (by kernel_rfl) (by kernel_rfl) (by kernel_rfl) (fun _ _ _ h => h) (Or.inl ⟨by rfl, ?y1_2⟩) (by assumption) ?r1_2
 case y1_2 => (intro w hSw; (try dsimp only at hSw); go_simp; (try with_reducible rfl))
 try simp only [Act.put, List.setIfInBounds_toArray, List.set_cons_zero, List.set_cons_succ]
 refine wpAnyH_take (i := 2) (oi := _) (v := ?v2_3) rfl (by kernel_rfl) (by kernel_rfl) (by kernel_rfl) (fun _ _ _ h => h) (Or.inl ⟨by rfl, ?y2_3⟩) (by assumption) ?r2_3
 case y2_3 => (intro w hSw; (try dsimp only at hSw); go_simp; (try with_reducible rfl))
 try simp only [Act.put, List.setIfInBounds_toArray, List.set_cons_zero, List.set_cons_succ]
 refine wpAnyH_take (i := 3) (oi := _) (v := ?v3_4) rfl (by kernel_rfl) (by kernel_rfl) (by kernel_rfl) (fun _ _ _ h => h) (Or.inl ⟨by rfl, ?y3_4⟩) (by assumption) ?r3_4
 case y3_4 => (intro w hSw; (try dsimp only at hSw); go_simp; (try with_reducible rfl))
 try simp only [Act.put, List.setIfInBounds_toArray, List.set_cons_zero, List.set_cons_succ]
 refine wpAnyH_take (i := 5) (oi := _) (v := ?v5_5) rfl (by kernel_rfl) (by kernel_rfl) (by kernel_rfl) (fun _ _ _ h => h) (Or.inl ⟨by rfl, ?y5_5⟩) (by assumption) ?r5_5
 case y5_5 => (intro w hSw; (try dsimp only at hSw); go_simp; (try with_reducible rfl))
 try simp only [Act.put, List.setIfInBounds_toArray, List.set_cons_zero, List.set_cons_succ]
 refine wpAnyH_take (i := 6) (oi := _) (v := ?v6_6) rfl (by kernel_rfl) (by kernel_rfl) (by kernel_rfl) (fun _ _ _ h => h) (Or.inl ⟨by rfl, ?y6_6⟩) (by assumption) ?r6_6
 case y6_6 => (intro w hSw; (try dsimp only at hSw); go_simp; (try with_reducible rfl))
 try simp only [Act.put, List.setIfInBounds_toArray, List.set_cons_zero, List.set_cons_succ]
 refine wpAnyH_take (i := 7) (oi := _) (v := ?v7_7) rfl (by kernel_rfl) (by kernel_rfl) (by kernel_rfl) (fun _ _ _ h => h) (Or.inl ⟨by rfl, ?y7_7⟩) (by assumption) ?r7_7
 case y7_7 => (intro w hSw; (try dsimp only at hSw); go_simp; (try with_reducible rfl))
 try simp only [Act.put, List.setIfInBounds_toArray, List.set_cons_zero, List.set_cons_succ]
 refine wpAnyH_take (i := 8) (oi := _) (v := ?v8_8) rfl (by kernel_rfl) (by kernel_rfl) (by kernel_rfl) (fun _ _ _ h => h) (Or.inl ⟨by rfl, ?y8_8⟩) (by assumption) ?r8_8
 case y8_8 => (intro w hSw; (try dsimp only at hSw); go_simp; (try with_reducible rfl))
 try simp only [Act.put, List.setIfInBounds_toArray, List.set_cons_zero, List.set_cons_succ]
 refine wpAnyH_take (i := 9) (oi := _) (v := ?v9_9) rfl (by kernel_rfl) (by kernel_rfl) (by kernel_rfl) (fun _ _ _ h => h) (Or.inl ⟨by rfl, ?y9_9⟩) (by assumption) ?r9_9
 case y9_9 => (intro w hSw; (try dsimp only at hSw); go_simp; (try with_reducible rfl))
 try simp only [Act.put, List.setIfInBounds_toArray, List.set_cons_zero, List.set_cons_succ]
 refine wpAnyH_take (i := 10) (oi := _) (v := ?v10_10) rfl (by kernel_rfl) (by kernel_rfl) (by kernel_rfl) (fun _ _ _ h => h) (Or.inl ⟨by rfl, ?y10_10⟩) (by assumption) ?r10_10
 case y10_10 => (intro w hSw; (try dsimp only at hSw); go_simp; (try with_reducible rfl))
 try simp only [Act.put, List.setIfInBounds_toArray, List.set_cons_zero, List.set_cons_succ]
 refine wpAnyH_ready (rs := [4, 11]) (by kernel_rfl) (by simp) ?_
 refine AllReadyH.cons (o := _) rfl (fun K hK => ?_) ?_
 ·go_simp
  refine hK.out _ _ ?_ (fun hHeld2 => ?_)
  ·(first | exact ⟨tk1, bk3, ak0, ak1, ak2, ak3⟩ | exact ⟨l1, l2, l3, l4, l5, l6⟩ | exact ⟨ty1, by3, ay0, ay1, ay2, ay3⟩ | (simp [go_sem, *]; done))
  clear hK K
  try simp only [Act.put, List.setIfInBounds_toArray, List.set_cons_zero, List.set_cons_succ]
  refine wpAnyH_ready (rs := [11]) (by kernel_rfl) (by simp) ?_
  refine AllReadyH.cons (o := _) rfl (fun K hK => ?_) ?_
  ·go_simp
   refine hK.out _ _ ?_ (fun hHeld2 => ?_)
   ·(first | exact ⟨tk1, bk3, ak0, ak1, ak2, ak3⟩ | exact ⟨l1, l2, l3, l4, l5, l6⟩ | exact ⟨ty1, by3, ay0, ay1, ay2, ay3⟩ | (simp [go_sem, *]; done))
   clear hK K
   try simp only [Act.put, List.setIfInBounds_toArray, List.set_cons_zero, List.set_cons_succ]
   refine wpAnyH_ready (rs := [12]) (by kernel_rfl) (by simp) ?_
   refine AllReadyH.cons (o := _) rfl (fun K hK => ?_) ?_
   ·(first | (refine Kd.R_append_step k43 (w0 := w0) (W := w4.drew) w0.heap.size (by rfl) (.tmp 42) (.tmp 49) 25 43 (.agg #[.int .i64 0, .int .i64 0, .string (⟨#[]⟩ : ByteArray), .int .i64 0, .int .i64 0, .int .i64 0, .string (⟨#[]⟩ : ByteArray), .slice none 0 0]) 96 rfl Tryz.underlying25 info43 rfl (by decide) (by omega) (.slice Ai its.length ci) its (⟨0, t.f1, (aheadF L i 2).f3, aheadF L i 1, []⟩ : S43) [.int .i64 0, .int .i64 t.f1, .string (aheadF L i 2).f3, .int .i64 (aheadF L i 1).f0, .int .i64 (aheadF L i 1).f1, .int .i64 (aheadF L i 1).f2, .string (aheadF L i 1).f3, .slice none 0 0] (fun k => some k ≠ ov.ownBlock) (fun _ => False) rfl rfl ?aP (fun _ hk => hk.elim) ?aF ?aO ?aB ?aS ?aL ?_; (case aP => exact k43_mkM _ _ _ _ (Kd.R_nil _ _ _ _ _)); (case aF => exact (fun k hk => hfr.out k (Nat.le_trans HK.out.1 hk))); (case aO => exact Kd.R_drew HI.out); (case aB => exact below_drew1 HB.out); (case aS => exact HB.out.size); (case aL => omega); intro v6 w6 ho6 hb6 hg6 hat6; obtain ⟨A6, m6, e6⟩ := Kd.R_slice ho6; subst e6; have BG6 := aM (blk_grown (blk_drew BG.out) hg6 hgo.out); have HR6 := aM ho6; have HB6 := aM hb6; have HG6 := aM hg6; have HT6 := aM hat6; obtain ⟨yk0, yk1, yk2, yk3, yk4, ym0, ym1, ym2, ym3, ym4⟩ := b5 BG6.out; obtain ⟨ty0, ty1, ty2, ty3, -, -, -, -⟩ := b4 (aM (blk_grown (blk_drew BT4.out) hg6 hgt.out)); obtain ⟨ay0, ay1, ay2, ay3, -, -, -, -⟩ := b4 (aM (blk_grown (blk_drew BA4.out) hg6 hga.out)); obtain ⟨by0, by1, by2, by3, -, -, -, -⟩ := b4 (aM (blk_grown (blk_drew BB4.out) hg6 hgb.out)); clear ho6 hb6 hg6 hat6))
    refine hK.out _ _ ?_ (fun hHeld2 => ?_)
    ·(first | exact ⟨tk1, bk3, ak0, ak1, ak2, ak3⟩ | exact ⟨l1, l2, l3, l4, l5, l6⟩ | exact ⟨ty1, by3, ay0, ay1, ay2, ay3⟩ | (simp [go_sem, *]; done))
    clear hK K
    try simp only [Act.put, List.setIfInBounds_toArray, List.set_cons_zero, List.set_cons_succ]
    refine wpAnyH_take (i := 13) (oi := _) (v := ?v13_11) rfl (by kernel_rfl) (by kernel_rfl) (by kernel_rfl) (fun _ _ _ h => h) (Or.inl ⟨by rfl, ?y13_11⟩) (by assumption) ?r13_11
    case y13_11 => (intro w hSw; (try dsimp only at hSw); go_simp; (try with_reducible rfl))
    try simp only [Act.put, List.setIfInBounds_toArray, List.set_cons_zero, List.set_cons_succ]
    refine wpAnyH_take (i := 14) (oi := _) (v := ?v14_12) rfl (by kernel_rfl) (by kernel_rfl) (by kernel_rfl) (fun _ _ _ h => h) (Or.inl ⟨by rfl, ?y14_12⟩) (by assumption) ?r14_12
    case y14_12 => (intro w hSw; (try dsimp only at hSw); go_simp; (try with_reducible rfl))
    try simp only [Act.put, List.setIfInBounds_toArray, List.set_cons_zero, List.set_cons_succ]
    refine wpAnyH_ready (rs := [15]) (by kernel_rfl) (by simp) ?_
    refine AllReadyH.cons (o := _) rfl (fun K hK => ?_) ?_
    ·go_simp
     refine hK.out _ _ ?_ (fun hHeld2 => ?_)
     ·(first | exact ⟨tk1, bk3, ak0, ak1, ak2, ak3⟩ | exact ⟨l1, l2, l3, l4, l5, l6⟩ | exact ⟨ty1, by3, ay0, ay1, ay2, ay3⟩ | (simp [go_sem, *]; done))
     clear hK K
     try simp only [Act.put, List.setIfInBounds_toArray, List.set_cons_zero, List.set_cons_succ]
     refine wpAnyH_done (by kernel_rfl) ?_ _
     refine NoPanic.normal ?_
     try go_wp2_with (fail)
     go_end0
     (replace HB := HB6; have GE2 := aM HS.out.ge; have HKg := aM (KeepBut.set_ (KeepBut.refl w6 g none) 4 (.slice A6 (its.length + 1) m6)))
     exact ⟨rfl, .slice A6 (its.length + 1) m6, ⟨bQ, GE2.out, kQ⟩, (by have := R_keepT HR6.out BG6.out (by decide) HKg.out; rw [List.length_append] at this; exact this), KeepBut.set_ (KeepBut.trans (KeepBut.weak HK.out _) (KeepBut.of_grown HG6.out g) (.inl rfl)) 4 _, HT6.out.imp (fun h => (by rw [List.length_append] at h; exact h)) (fun ⟨b, h1, h2⟩ => ⟨b, (by rw [List.length_append] at h1; exact h1), Nat.le_trans HK.out.1 h2⟩)⟩
    exact AllReadyH.nil
   exact AllReadyH.nil
  exact AllReadyH.nil
 refine AllReadyH.cons (o := _) rfl (fun K hK => ?_) ?_
 ·go_simp
  refine hK.out _ _ ?_ (fun hHeld2 => ?_)
  ·(first | exact ⟨tk1, bk3, ak0, ak1, ak2, ak3⟩ | exact ⟨l1, l2, l3, l4, l5, l6⟩ | exact ⟨ty1, by3, ay0, ay1, ay2, ay3⟩ | (simp [go_sem, *]; done))
  clear hK K
  try simp only [Act.put, List.setIfInBounds_toArray, List.set_cons_zero, List.set_cons_succ]
  refine wpAnyH_ready (rs := [4]) (by kernel_rfl) (by simp) ?_
  refine AllReadyH.cons (o := _) rfl (fun K hK => ?_) ?_
  ·go_simp
   refine hK.out _ _ ?_ (fun hHeld2 => ?_)
   ·(first | exact ⟨tk1, bk3, ak0, ak1, ak2, ak3⟩ | exact ⟨l1, l2, l3, l4, l5, l6⟩ | exact ⟨ty1, by3, ay0, ay1, ay2, ay3⟩ | (simp [go_sem, *]; done))
   clear hK K
   try simp only [Act.put, List.setIfInBounds_toArray, List.set_cons_zero, List.set_cons_succ]
   refine wpAnyH_ready (rs := [12]) (by kernel_rfl) (by simp) ?_
   refine AllReadyH.cons (o := _) rfl (fun K hK => ?_) ?_
   ·(first | (refine Kd.R_append_step k43 (w0 := w0) (W := w4.drew) w0.heap.size (by rfl) (.tmp 42) (.tmp 49) 25 43 (.agg #[.int .i64 0, .int .i64 0, .string (⟨#[]⟩ : ByteArray), .int .i64 0, .int .i64 0, .int .i64 0, .string (⟨#[]⟩ : ByteArray), .slice none 0 0]) 96 rfl Tryz.underlying25 info43 rfl (by decide) (by omega) (.slice Ai its.length ci) its (⟨0, t.f1, (aheadF L i 2).f3, aheadF L i 1, []⟩ : S43) [.int .i64 0, .int .i64 t.f1, .string (aheadF L i 2).f3, .int .i64 (aheadF L i 1).f0, .int .i64 (aheadF L i 1).f1, .int .i64 (aheadF L i 1).f2, .string (aheadF L i 1).f3, .slice none 0 0] (fun k => some k ≠ ov.ownBlock) (fun _ => False) rfl rfl ?aP (fun _ hk => hk.elim) ?aF ?aO ?aB ?aS ?aL ?_; (case aP => exact k43_mkM _ _ _ _ (Kd.R_nil _ _ _ _ _)); (case aF => exact (fun k hk => hfr.out k (Nat.le_trans HK.out.1 hk))); (case aO => exact Kd.R_drew HI.out); (case aB => exact below_drew1 HB.out); (case aS => exact HB.out.size); (case aL => omega); intro v6 w6 ho6 hb6 hg6 hat6; obtain ⟨A6, m6, e6⟩ := Kd.R_slice ho6; subst e6; have BG6 := aM (blk_grown (blk_drew BG.out) hg6 hgo.out); have HR6 := aM ho6; have HB6 := aM hb6; have HG6 := aM hg6; have HT6 := aM hat6; obtain ⟨yk0, yk1, yk2, yk3, yk4, ym0, ym1, ym2, ym3, ym4⟩ := b5 BG6.out; obtain ⟨ty0, ty1, ty2, ty3, -, -, -, -⟩ := b4 (aM (blk_grown (blk_drew BT4.out) hg6 hgt.out)); obtain ⟨ay0, ay1, ay2, ay3, -, -, -, -⟩ := b4 (aM (blk_grown (blk_drew BA4.out) hg6 hga.out)); obtain ⟨by0, by1, by2, by3, -, -, -, -⟩ := b4 (aM (blk_grown (blk_drew BB4.out) hg6 hgb.out)); clear ho6 hb6 hg6 hat6))
    refine hK.out _ _ ?_ (fun hHeld2 => ?_)
    ·(first | exact ⟨tk1, bk3, ak0, ak1, ak2, ak3⟩ | exact ⟨l1, l2, l3, l4, l5, l6⟩ | exact ⟨ty1, by3, ay0, ay1, ay2, ay3⟩ | (simp [go_sem, *]; done))
    clear hK K
    try simp only [Act.put, List.setIfInBounds_toArray, List.set_cons_zero, List.set_cons_succ]
    refine wpAnyH_take (i := 13) (oi := _) (v := ?v13_13) rfl (by kernel_rfl) (by kernel_rfl) (by kernel_rfl) (fun _ _ _ h => h) (Or.inl ⟨by rfl, ?y13_13⟩) (by assumption) ?r13_13
    case y13_13 => (intro w hSw; (try dsimp only at hSw); go_simp; (try with_reducible rfl))
    try simp only [Act.put, List.setIfInBounds_toArray, List.set_cons_zero, List.set_cons_succ]
    refine wpAnyH_take (i := 14) (oi := _) (v := ?v14_14) rfl (by kernel_rfl) (by kernel_rfl) (by kernel_rfl) (fun _ _ _ h => h) (Or.inl ⟨by rfl, ?y14_14⟩) (by assumption) ?r14_14
    case y14_14 => (intro w hSw; (try dsimp only at hSw); go_simp; (try with_reducible rfl))
    try simp only [Act.put, List.setIfInBounds_toArray, List.set_cons_zero, List.set_cons_succ]
    refine wpAnyH_ready (rs := [15]) (by kernel_rfl) (by simp) ?_
    refine AllReadyH.cons (o := _) rfl (fun K hK => ?_) ?_
    ·go_simp
     refine hK.out _ _ ?_ (fun hHeld2 => ?_)
     ·(first | exact ⟨tk1, bk3, ak0, ak1, ak2, ak3⟩ | exact ⟨l1, l2, l3, l4, l5, l6⟩ | exact ⟨ty1, by3, ay0, ay1, ay2, ay3⟩ | (simp [go_sem, *]; done))
     clear hK K
     try simp only [Act.put, List.setIfInBounds_toArray, List.set_cons_zero, List.set_cons_succ]
     refine wpAnyH_done (by kernel_rfl) ?_ _
     refine NoPanic.normal ?_
     try go_wp2_with (fail)
     go_end0
     (replace HB := HB6; have GE2 := aM HS.out.ge; have HKg := aM (KeepBut.set_ (KeepBut.refl w6 g none) 4 (.slice A6 (its.length + 1) m6)))
     exact ⟨rfl, .slice A6 (its.length + 1) m6, ⟨bQ, GE2.out, kQ⟩, (by have := R_keepT HR6.out BG6.out (by decide) HKg.out; rw [List.length_append] at this; exact this), KeepBut.set_ (KeepBut.trans (KeepBut.weak HK.out _) (KeepBut.of_grown HG6.out g) (.inl rfl)) 4 _, HT6.out.imp (fun h => (by rw [List.length_append] at h; exact h)) (fun ⟨b, h1, h2⟩ => ⟨b, (by rw [List.length_append] at h1; exact h1), Nat.le_trans HK.out.1 h2⟩)⟩
    exact AllReadyH.nil
   exact AllReadyH.nil
  exact AllReadyH.nil
 exact AllReadyH.nil
end
end Go.Proofs.YtjplnhdplpiogaaGreatDoor.M
end
section
namespace Go.Proofs.YtjplnhdplpiogaaGreatDoor.M
open Go.RowKit Go.Proofs.YtjplnhdplpiogaaGreatDoorW.PrintWords Go.Proofs.YtjplnhdplpiogaaGreatDoorW.PrintLast Go.Proofs.YtjplnhdplpiogaaGreatDoorW.PrintMore
set_option linter.unusedVariables false
set_option linter.unusedSimpArgs false
set_option maxRecDepth 100000
set_option maxHeartbeats 8000000
section
variable {w : World} {b : Nat}
theorem catch_panicking (x y a e : Int) (older : List PanicEntry) (hb : w.heap[b]? = some (.cells #[.int .i64 x, .int .i64 y] 60 (0, 0))) :
  CallsD Tryz.prog 30 #[.pointer (some ⟨b, 0, none⟩)] (.panicking (wrongE a e false :: older)) w fun r u' w' =>
   r = .returned (.tuple #[]) ∧ u' = .panicking (wrongE a e true :: older) ∧ w' = (w.setCell ⟨b, 0, none⟩ (.int .i64 a)).setCell ⟨b, 1, none⟩ (.int .i64 e) := by
 have hu60 := Tryz.underlying60
 obtain ⟨k0, k1, m0, m1⟩ := b2 (aM hb)
 unfold wrongE
 refine callsD_of_wpS Tryz.func30 rfl fun c₀ cs hu => ?_
 apply wpS_seq
 apply wpS_region
 simp [wpOpsS, go_sem, recoverD, hu, Tryz.ntmps30, Exit.thenS]
 apply wpS_seq
 apply wpS_region
 simp [wpOpsS, go_sem, Exit.thenS]
 refine wpS_cond (t := true) (by simp [Act.eval, Array.replicate]) ?_
 simp only [if_true]
 have hta : ∀ W : World, (Instr.typeAssert (.iface 60 (.agg #[.int .i64 a, .int .i64 e])) 20 60 false).run Tryz.prog W = .ok (.agg #[.int .i64 a, .int .i64 e]) W := fun _ => rfl
 apply wpS_region
 simp [wpOpsS, go_sem, hta, k0, k1, m0, m1, hu60, bodyPostS, results, Tryz.results30, Array.replicate]
theorem catch_idle (p : Addr) :
  CallsD Tryz.prog 30 #[.pointer (some p)] .returning w fun r u' w' => r = .returned (.tuple #[]) ∧ u' = .returning ∧ w' = w := by
 refine callsD_of_wpS Tryz.func30 rfl fun c₀ cs hu => ?_
 apply wpS_seq
 apply wpS_region
 simp [wpOpsS, go_sem, recoverD, hu, Tryz.ntmps30, Exit.thenS]
 apply wpS_seq
 apply wpS_region
 simp [wpOpsS, go_sem, Exit.thenS]
 refine wpS_cond (t := false) (by simp [Act.eval, Array.replicate]) ?_
 simp only [Bool.false_eq_true, if_false]
 refine wpS_of_wp (wp_skip ?_)
 cases c₀
 simp_all [bodyPostS, results, Tryz.results30]
end
end Go.Proofs.YtjplnhdplpiogaaGreatDoor.M
end
section
namespace Go.Proofs.YtjplnhdplpiogaaGreatDoor.M
open Go.RowKit Go.Proofs.YtjplnhdplpiogaaGreatDoorW.PrintWords Go.Proofs.YtjplnhdplpiogaaGreatDoorW.PrintLast Go.Proofs.YtjplnhdplpiogaaGreatDoorW.PrintMore
set_option linter.unusedVariables false
set_option linter.unusedSimpArgs false
set_option maxRecDepth 100000
set_option maxHeartbeats 8000000
/-- What is open behind a token that is no word, or is deep. -/
def pairsF (opn : List Int) (k : Int) : Option (List Int) :=
 if k = 6 ∨ k = 8 ∨ k = 10 then (if opn.length < 32 then some (opn ++ [k]) else none)
 else if k = 7 ∨ k = 9 ∨ k = 11 then (if opn ≠ [] ∧ opn.getLastD 0 + 1 = k then some opn.dropLast else none)
 else some opn
section
variable {w0 w : World} {g : Nat} {A : Option Addr} {c : Nat} {L : List S40} {i e : Int} {ov iv : Value}
theorem pairs_calls (hS : St w0 w g A c L i e ov iv) (h0 : 0 ≤ i) (h1 : i < 9223372036854775807) (opn : List Int) (hO : (Kd.int .i64).R 3 w w0.heap.size (fun _ => True) ov opn) (hb : ∀ k ∈ opn, k = 6 ∨ k = 8 ∨ k = 10) (t : S40) (opn' : List Int) (h : pairsF opn t.f0 = some opn') :
  Calls Tryz.prog 32 #[.pointer (some ⟨g, 0, none⟩), .agg (tok4 t)] w fun x w' => x = .returned (.tuple #[]) ∧ ∃ ov', St w0 w' g A c L (i + 1) e ov' iv ∧ (Kd.int .i64).R 3 w' w0.heap.size (fun _ => True) ov' opn' ∧ KeepBut w w' g ov.ownBlock ∧ (ov'.ownBlock = ov.ownBlock ∨ ∃ b, ov'.ownBlock = some b ∧ w.heap.size ≤ b) := by
 unfold pairsF at h
 split at h
 ·rename_i hk
  split at h
  ·rename_i hn
   obtain rfl := Option.some.inj h
   exact pairs_open hS h0 h1 opn hO t hk hn
  ·cases h
 ·split at h
  ·rename_i hk0 hk
   split at h
   ·rename_i hc
    obtain rfl := Option.some.inj h
    obtain ⟨pre, k, rfl⟩ : ∃ pre k, opn = pre ++ [k] := ⟨opn.dropLast, opn.getLast hc.1, (List.dropLast_concat_getLast hc.1).symm⟩
    have hlast : (pre ++ [k]).getLastD 0 = k := by simp
    have hkk := hb k (by simp)
    rw [hlast] at hc
    rw [List.dropLast_concat]
    refine (pairs_close hS h0 h1 pre k hO t hk hc.2.symm).mono ?_
    rintro x w' ⟨rfl, ov', hs, hr, hkb, ho⟩
    exact ⟨rfl, ov', hs, hr, KeepBut.weak hkb _, .inl ho⟩
   ·cases h
  ·rename_i hk0 hk
   obtain rfl := Option.some.inj h
   obtain ⟨Ao, m, hov⟩ := Kd.R_slice hO
   refine (pairs_other hS h0 h1 opn.length m Ao hov t (by omega)).mono ?_
   rintro x w' ⟨rfl, hs, hkb⟩
   exact ⟨rfl, ov, hs, R_keepT hO hS.blk (by decide) hkb, KeepBut.weak hkb _, .inl rfl⟩
end
end Go.Proofs.YtjplnhdplpiogaaGreatDoor.M
end
section
namespace Go.Proofs.YtjplnhdplpiogaaGreatDoor.M
open Go.RowKit Go.Proofs.YtjplnhdplpiogaaGreatDoorW.PrintWords Go.Proofs.YtjplnhdplpiogaaGreatDoorW.PrintLast Go.Proofs.YtjplnhdplpiogaaGreatDoorW.PrintMore
set_option linter.unusedVariables false
set_option linter.unusedSimpArgs false
set_option maxRecDepth 100000
set_option maxHeartbeats 8000000
/-- What a step comes to: what it answers, or an error's place and its number; none where a text is longer than is told of. -/
abbrev Ex (α : Type) := Option (Except (Int × Int) α)
def bX {α β : Type} : Ex α → (α → Ex β) → Ex β
 | none, _ => none
 | some (.error p), _ => some (.error p)
 | some (.ok a), f => f a
/-- What a method of the parser leaves behind. -/
def Out (w0 w : World) (g : Nat) (A : Option Addr) (c : Nat) (L : List S40) (e : Int) (ov iv : Value) {α : Type} (enc : World → α → Value → Prop) (nx : α → Int) : Except (Int × Int) α → Ending → World → Prop
 | .error p, x, w' => x = .panicked [wrongE p.1 p.2 false] ∧ KeepBut w w' g none ∧ Below w0.heap.size w0 w'
 | .ok r, x, w' => ∃ v, x = .returned v ∧ enc w' r v ∧ St w0 w' g A c L (nx r) e ov iv ∧ KeepBut w w' g none
def takeF (L : List S40) (e i kind : Int) : Ex S40 :=
 if i < L.length then (if (rd_T40 L i).f0 = kind then some (.ok (rd_T40 L i)) else some (.error ((rd_T40 L i).f1, 3))) else some (.error (e, 2))
def codeF (L : List S40) (e i n : Int) : Ex (S46 × Int) :=
 bX (takeF L e i 4) fun t => if t.f3.size ≤ 1000000 then (if (valF t.f3).2.2 = true ∧ (n > 0 → (valF t.f3).1 = n) then some (.ok (⟨(valF t.f3).1, (valF t.f3).2.1⟩, t.f1)) else some (.error (t.f1, 12))) else none
def toF (L : List S40) (e i more : Int) : Ex Int :=
 bX (takeF L e i 1) fun t => if 0 ≤ t.f2 ∧ t.f2 ≤ 65535 - more then some (.ok t.f2) else some (.error (t.f1, 7))
section
variable {w0 w : World} {g : Nat} {A : Option Addr} {c : Nat} {L : List S40} {i e : Int} {ov iv : Value}
theorem take_calls (hC : Kd.C k40 w0 A L.length L) (hS : St w0 w g A c L i e ov iv) (h0 : 0 ≤ i) (kind : Int) (r : Except (Int × Int) S40) (h : takeF L e i kind = some r) :
  Calls Tryz.prog 148 #[.pointer (some ⟨g, 0, none⟩), .int .i64 kind] w (Out w0 w g A c L e ov iv (fun _ t v => v = .agg (tok4 t)) (fun _ => i + 1) r) := by
 unfold takeF at h
 split at h
 ·rename_i hn
  split at h
  ·rename_i hk
   obtain rfl := Option.some.inj h
   refine (take_ok hC hS h0 hn kind hk.symm).mono ?_
   rintro x w' ⟨rfl, hs, hk⟩
   exact ⟨_, rfl, rfl, hs, hk⟩
  ·rename_i hk
   obtain rfl := Option.some.inj h
   refine (take_form hC hS h0 hn kind hk).mono ?_
   rintro x w' ⟨rfl, hb⟩
   exact ⟨rfl, KeepBut.of_below hb g none, below_step hS.below hb⟩
 ·rename_i hn
  obtain rfl := Option.some.inj h
  refine (take_short hS hn kind).mono ?_
  rintro x w' ⟨rfl, hb⟩
  exact ⟨rfl, KeepBut.of_below hb g none, below_step hS.below hb⟩
theorem take_in {kind : Int} {t : S40} (h : takeF L e i kind = some (.ok t)) : i < L.length ∧ (rd_T40 L i).f0 = kind ∧ t = rd_T40 L i := by
 unfold takeF at h
 split at h
 ·rename_i hn
  split at h
  ·rename_i hk
   injection h with h; injection h with h
   exact ⟨hn, hk, h.symm⟩
  ·injection h with h; cases h
 ·injection h with h; cases h
theorem bX_ok {α β : Type} {x : Ex α} {f : α → Ex β} {r : Except (Int × Int) β} (h : bX x f = some r) : (∃ p, x = some (.error p) ∧ r = .error p) ∨ ∃ a, x = some (.ok a) ∧ f a = some r := by
 match x, h with
 | some (.error p), h => exact .inl ⟨p, rfl, (Option.some.inj h).symm⟩
 | some (.ok a), h => exact .inr ⟨a, rfl, h⟩
theorem to_calls (hC : Kd.C k40 w0 A L.length L) (hS : St w0 w g A c L i e ov iv) (h0 : 0 ≤ i) (more : Int) (hm0 : 0 ≤ more) (hm1 : more ≤ 4294967296) (r : Except (Int × Int) Int) (h : toF L e i more = some r) :
  Calls Tryz.prog 125 #[.pointer (some ⟨g, 0, none⟩), .int .i64 more] w (Out w0 w g A c L e ov iv (fun _ t v => v = .int .i64 t) (fun _ => i + 1) r) := by
 have hu40 := Tryz.underlying40
 have hw : wrap64 (65535 - more) = 65535 - more := by unfold wrap64; omega
 unfold toF at h
 obtain ⟨p, ht, rfl⟩ | ⟨t, ht, h⟩ := bX_ok h
 ·go_enter Tryz.func125, Tryz.ntmps125
  go_wp2_with (first | (go_at_call 148; refine (take_calls hC hS h0 1 _ ht).mono ?_; rintro x w2 ⟨rfl, hk2, hbe⟩))
  exact ⟨rfl, rfl, hk2, hbe⟩
 ·obtain ⟨hn, hk, rfl⟩ := take_in ht
  split at h
  ·rename_i hc
   obtain rfl := Option.some.inj h
   refine (to_ok hC hS h0 hn hk more hm0 hm1 hc.1 hc.2).mono ?_
   rintro x w' ⟨rfl, hs, hk⟩
   exact ⟨_, rfl, rfl, hs, hk⟩
  ·rename_i hc
   obtain rfl := Option.some.inj h
   have HS := aM hS
   clear hS h
   by_cases h1 : (rd_T40 L i).f2 < 0
   ·have d1 := decide_eq_true h1
    clear hc h1
    go_enter Tryz.func125, Tryz.ntmps125
    go_wp2_with (first | (go_at_call 148; refine (take_calls hC HS.out h0 1 _ ht).mono ?_; rintro x w2 ⟨v, rfl, rfl, hs2, hk2⟩; replace HS := aM hs2; clear hs2) | (go_at_call 33; refine (fail_calls _ _ _).mono ?_; rintro x wf ⟨rfl, hbf⟩))
    exact ⟨rfl, rfl, KeepBut.trans hk2 (KeepBut.trans (KeepBut.of_below (below_alloc (Below.refl _ _) _) g none) (KeepBut.of_below hbf g none) (.inl rfl)) (.inl rfl), below_step (below_alloc HS.out.below _) hbf⟩
   ·have d1 := decide_eq_false h1
    have d2 : decide (65535 - more < (rd_T40 L i).f2) = true := decide_eq_true (by omega)
    clear hc h1
    go_enter Tryz.func125, Tryz.ntmps125
    go_wp2_with (first | (go_at_call 148; refine (take_calls hC HS.out h0 1 _ ht).mono ?_; rintro x w2 ⟨v, rfl, rfl, hs2, hk2⟩; replace HS := aM hs2; clear hs2) | (go_at_call 33; refine (fail_calls _ _ _).mono ?_; rintro x wf ⟨rfl, hbf⟩))
    exact ⟨rfl, rfl, KeepBut.trans hk2 (KeepBut.trans (KeepBut.of_below (below_alloc (Below.refl _ _) _) g none) (KeepBut.of_below hbf g none) (.inl rfl)) (.inl rfl), below_step (below_alloc HS.out.below _) hbf⟩
end
end Go.Proofs.YtjplnhdplpiogaaGreatDoor.M
end
section
namespace Go.Proofs.YtjplnhdplpiogaaGreatDoor.M
open Go.RowKit Go.Proofs.YtjplnhdplpiogaaGreatDoorW.PrintWords Go.Proofs.YtjplnhdplpiogaaGreatDoorW.PrintLast Go.Proofs.YtjplnhdplpiogaaGreatDoorW.PrintMore
set_option linter.unusedVariables false
set_option linter.unusedSimpArgs false
set_option maxRecDepth 100000
set_option maxHeartbeats 8000000
theorem v46 (w : World) (x : S46) : (Value.agg #[.int .i64 x.f0, .int .i64 x.f1]) = .agg #[.int .i64 x.f0, .int .i64 x.f1] := rfl
section
variable {w0 w : World} {g : Nat} {A : Option Addr} {c : Nat} {L : List S40} {i e : Int} {ov iv : Value}
theorem code_bad (hC : Kd.C k40 w0 A L.length L) (hS : St w0 w g A c L i e ov iv) (h0 : 0 ≤ i) (hn : i < L.length) (hk : (rd_T40 L i).f0 = 4) (n N V' : Int) (b : Bool) (hs : (rd_T40 L i).f3.size ≤ 140737488351232) (hv : valF (rd_T40 L i).f3 = (N, V', b)) (hN : b = false ∨ n > 0 ∧ N ≠ n) :
  Calls Tryz.prog 146 #[.pointer (some ⟨g, 0, none⟩), .int .i64 n] w fun x w' => x = .panicked [wrongE (rd_T40 L i).f1 12 false] ∧ KeepBut w w' g none ∧ Below w0.heap.size w0 w' := by
 have hu40 := Tryz.underlying40
 have hu46 := Tryz.underlying46
 have hu58 := Tryz.underlying58
 obtain ⟨kv, hkv⟩ := val_eq (rd_T40 L i).f3
 rw [hv] at hkv
 have HS := aM hS
 have HK := aM (KeepBut.refl w g none)
 clear hS
 go_enter Tryz.func146, Tryz.ntmps146
 go_wp2_with (first | ((with_reducible refine gD 4 ?_); refine bE 4 (cs := #[.int .i64 0, .int .i64 0]) (t := 46) ?_; intro gb hg w1 hbox hb; have BKgb := aM hbox; have NEgb := aM (show g ≠ gb by rw [hg]; exact Nat.ne_of_lt (blk_lt HS.out.blk)); have NFgb := aM (Ne.symm NEgb.out); have GEgb := aM (show w0.heap.size ≤ gb by rw [hg]; exact HS.out.below.size); replace HS := aM (HS.out.of_below hb); replace HK := aM (KeepBut.trans HK.out (KeepBut.of_below hb g none) (.inl rfl)); have GW := aM (show w.heap.size ≤ gb by rw [hg]; exact Nat.le_refl _); clear hb hbox hg; obtain ⟨sc0, sc1, sc2, sc3, sc4, sf0, sf1, sf2, sf3, sf4⟩ := b5 HS.out.blk; obtain ⟨gbk0, gbk1, gbm0, gbm1⟩ := b2 BKgb; have nqgb := NEgb.out; have nrgb := NFgb.out) | (go_at_call 148; refine (take_ok hC HS.out h0 hn 4 hk.symm).mono ?_; rintro x w2 ⟨rfl, hs2, hk2⟩; replace HS := aM hs2; replace BKgb := aM (KeepBut.blk hk2 BKgb.out NFgb.out (by simp)); replace HK := aM (KeepBut.trans HK.out hk2 (.inl rfl)); have hcv := Lib.run_convert_string_bytes (P := Tryz.prog) (w2.alloc (.cells #[.int .i64 (rd_T40 L i).f0, .int .i64 (rd_T40 L i).f1, .int .i64 (rd_T40 L i).f2, .string (rd_T40 L i).f3] 40)) 9 52 5 (rd_T40 L i).f3 (u := .string) Tryz.underlying9 Tryz.underlying52 Tryz.underlying5; clear hs2 hk2 hk))
 have hsz : (w2.alloc (.cells #[.int .i64 (rd_T40 L i).f0, .int .i64 (rd_T40 L i).f1, .int .i64 (rd_T40 L i).f2, .string (rd_T40 L i).f3] 40)).heap.size = w2.heap.size + 1 := Array.size_push ..
 have hnw : (w2.alloc (.cells #[.int .i64 (rd_T40 L i).f0, .int .i64 (rd_T40 L i).f1, .int .i64 (rd_T40 L i).f2, .string (rd_T40 L i).f3] 40)).heap[w2.heap.size]? = some (.cells (tok4 (rd_T40 L i)) 40 (0, 0)) := blk_new _ _
 have hV0 : Below w2.heap.size w2 (w2.alloc (.cells #[.int .i64 (rd_T40 L i).f0, .int .i64 (rd_T40 L i).f1, .int .i64 (rd_T40 L i).f2, .string (rd_T40 L i).f3] 40)) := below_alloc (Below.refl _ _) _
 generalize w2.alloc (.cells #[.int .i64 (rd_T40 L i).f0, .int .i64 (rd_T40 L i).f1, .int .i64 (rd_T40 L i).f2, .string (rd_T40 L i).f3] 40) = V at hsz hnw hV0 hcv ⊢
 have hrd : Kd.C (Kd.int .u8) (Lib.bytesWorld V 5 (rd_T40 L i).f3) (some ⟨w2.heap.size + 1, 0, none⟩) (bytesOf (rd_T40 L i).f3).length (bytesOf (rd_T40 L i).f3) := by
  rw [bytesOf_length, ← hsz]
  exact Kd.C_of_reads (h1 := fun _ => rfl) (bytes_reads V 5 (rd_T40 L i).f3 (by omega))
 have hx := hex_Val.calls kv (some ⟨w2.heap.size + 1, 0, none⟩) (grownCap V (rd_T40 L i).f3.size 0 5) (bytesOf (rd_T40 L i).f3) N V' b _ hrd (by rw [bytesOf_length]; exact grownCap_ge _ _ _ _) hkv
 rw [bytesOf_length] at hx
 refine hx.mono ?_
 rintro x w3 ⟨rfl, hb⟩
 have hb1 : Below V.heap.size V w3 := below_step (bytes_below (Below.refl _ _) (Nat.le_refl _) 5 _) hb
 have hb2 : Below w2.heap.size w2 w3 := below_step hV0 hb1
 have BT := aM (blk_below hnw hb1)
 replace HK := aM (KeepBut.trans HK.out (KeepBut.of_below hb2 g none) (.inl rfl))
 have HS4 := aM (below_alloc (HS.out.of_below hb2).below (.cells #[.int .i64 N, .int .i64 V'] 46))
 clear hx hb hrd hcv hnw hsz hV0 hb1 hb2 HS BKgb gbk0 gbk1 gbm0 gbm1 sc0 sc1 sc2 sc3 sc4 sf0 sf1 sf2 sf3 sf4 nqgb nrgb
 have BT4 := aM (blk_below BT.out (below_alloc (Below.refl w3.heap.size w3) (.cells #[.int .i64 N, .int .i64 V'] 46)))
 have BV4 := aM (blk_new w3 (.cells #[.int .i64 N, .int .i64 V'] 46))
 have HK4 := aM (KeepBut.trans HK.out (KeepBut.of_below (below_alloc (Below.refl w3.heap.size w3) (.cells #[.int .i64 N, .int .i64 V'] 46)) g none) (.inl rfl))
 obtain ⟨tk0, tk1, tk2, tk3, tm0, tm1, tm2, tm3⟩ := b4 BT4
 obtain ⟨vk0, vk1, vm0, vm1⟩ := b2 BV4
 cases b with
 | false =>
  clear hN
  go_wp2_with (first | (go_at_call 33; refine (fail_calls _ _ _).mono ?_; rintro x wf ⟨rfl, hbf⟩))
  exact ⟨rfl, rfl, KeepBut.trans HK4.out (KeepBut.of_below hbf g none) (.inl rfl), below_step HS4.out hbf⟩
 | true =>
  have hN2 := hN.resolve_left (by simp)
  have d1 : decide (0 < n) = true := decide_eq_true hN2.1
  have d2 : (N != n) = true := bne_iff_ne.mpr hN2.2
  clear hN hN2
  go_wp2_with (first | (go_at_call 33; refine (fail_calls _ _ _).mono ?_; rintro x wf ⟨rfl, hbf⟩))
  exact ⟨rfl, rfl, KeepBut.trans HK4.out (KeepBut.of_below hbf g none) (.inl rfl), below_step HS4.out hbf⟩
theorem code_calls (hC : Kd.C k40 w0 A L.length L) (hS : St w0 w g A c L i e ov iv) (h0 : 0 ≤ i) (n : Int) (r : Except (Int × Int) (S46 × Int)) (h : codeF L e i n = some r) :
  Calls Tryz.prog 146 #[.pointer (some ⟨g, 0, none⟩), .int .i64 n] w (Out w0 w g A c L e ov iv (fun _ t v => v = .tuple #[.agg #[.int .i64 t.1.f0, .int .i64 t.1.f1], .int .i64 t.2]) (fun _ => i + 1) r) := by
 have hu40 := Tryz.underlying40
 unfold codeF at h
 obtain ⟨p, ht, rfl⟩ | ⟨t, ht, h⟩ := bX_ok h
 ·have HS := aM hS
  have HK := aM (KeepBut.refl w g none)
  clear hS
  go_enter Tryz.func146, Tryz.ntmps146
  go_wp2_with (first | ((with_reducible refine gD 4 ?_); refine bE 4 (cs := #[.int .i64 0, .int .i64 0]) (t := 46) ?_; intro gb hg w1 hbox hb; have BKgb := aM hbox; have NEgb := aM (show g ≠ gb by rw [hg]; exact Nat.ne_of_lt (blk_lt HS.out.blk)); have NFgb := aM (Ne.symm NEgb.out); have GEgb := aM (show w0.heap.size ≤ gb by rw [hg]; exact HS.out.below.size); replace HS := aM (HS.out.of_below hb); replace HK := aM (KeepBut.trans HK.out (KeepBut.of_below hb g none) (.inl rfl)); clear hb hbox hg; obtain ⟨sc0, sc1, sc2, sc3, sc4, sf0, sf1, sf2, sf3, sf4⟩ := b5 HS.out.blk; obtain ⟨gbk0, gbk1, gbm0, gbm1⟩ := b2 BKgb; have nqgb := NEgb.out; have nrgb := NFgb.out) | (go_at_call 148; refine (take_calls hC HS.out h0 4 _ ht).mono ?_; rintro x w2 ⟨rfl, hk2, hbe⟩))
  exact ⟨rfl, rfl, KeepBut.trans HK.out hk2 (.inl rfl), hbe⟩
 ·obtain ⟨hn, hk, rfl⟩ := take_in ht
  split at h
  ·rename_i hs
   split at h
   ·rename_i hc
    obtain rfl := Option.some.inj h
    refine (code_ok hC hS h0 hn hk n _ _ (by omega) (by rw [← hc.1]) hc.2).mono ?_
    rintro x w' ⟨rfl, hs, hk⟩
    exact ⟨_, rfl, rfl, hs, hk⟩
   ·rename_i hc
    obtain rfl := Option.some.inj h
    refine (code_bad hC hS h0 hn hk n (valF (rd_T40 L i).f3).1 (valF (rd_T40 L i).f3).2.1 (valF (rd_T40 L i).f3).2.2 (by omega) rfl ?_).mono ?_
    ·cases hb : (valF (rd_T40 L i).f3).2.2 with
     | false => exact .inl rfl
     | true =>
      refine .inr (Classical.byContradiction fun hx => hc ⟨hb, fun h1 => ?_⟩)
      exact Classical.byContradiction fun h2 => hx ⟨h1, h2⟩
    ·rintro x w' ⟨rfl, hk, hbe⟩
     exact ⟨rfl, hk, hbe⟩
  ·cases h
end
end Go.Proofs.YtjplnhdplpiogaaGreatDoor.M
end
section
namespace Go.Proofs.YtjplnhdplpiogaaGreatDoor.M
open Go.RowKit Go.Proofs.YtjplnhdplpiogaaGreatDoorW.PrintWords Go.Proofs.YtjplnhdplpiogaaGreatDoorW.PrintLast Go.Proofs.YtjplnhdplpiogaaGreatDoorW.PrintMore
set_option linter.unusedVariables false
set_option linter.unusedSimpArgs false
set_option maxRecDepth 100000
set_option maxHeartbeats 8000000
theorem keepA {w W : World} {g : Nat} {o : Obj} (h : KeepBut w W g none) : KeepBut w (W.alloc o) g none := keep_alloc h o
def pairF (L : List S40) (e i : Int) (bad : S46 → S46 → Bool) : Ex S50 :=
 bX (codeF L e i 0) fun lo => bX (codeF L e (i + 1) lo.1.f0) fun hi => if bad lo.1 hi.1 = true then some (.error (hi.2, 7)) else some (.ok ⟨lo.1, hi.1, 0, [], []⟩)
/-- An entry's value. -/
abbrev ent7 (x : S50) (vU vL : Value) : Array Value := #[.int .i64 x.f0.f0, .int .i64 x.f0.f1, .int .i64 x.f1.f0, .int .i64 x.f1.f1, .int .i64 x.f2, vU, vL]
section
variable {w0 w : World} {g : Nat} {A : Option Addr} {c : Nat} {L : List S40} {i e : Int} {ov iv : Value}
theorem pair_calls (hC : Kd.C k40 w0 A L.length L) (hS : St w0 w g A c L i e ov iv) (h0 : 0 ≤ i) (fb : Nat) (hcf : ∀ (args : Array Value) (W : World), Sem.run Tryz.prog (callFunc fb args) W = .ok (.enter fb args) W) (bad : S46 → S46 → Bool) (hbad : ∀ (w : World) (lo hi : S46) (at' : Int × Int) (h1 : codeF L e i 0 = some (.ok (lo, at'.1))) (h2 : codeF L e (i + 1) lo.f0 = some (.ok (hi, at'.2))), Calls Tryz.prog fb #[.agg #[.int .i64 lo.f0, .int .i64 lo.f1], .agg #[.int .i64 hi.f0, .int .i64 hi.f1]] w fun x w' => x = .returned (.bool (bad lo hi)) ∧ Below w.heap.size w w') (r : Except (Int × Int) S50) (h : pairF L e i bad = some r) :
  Calls Tryz.prog 122 #[.pointer (some ⟨g, 0, none⟩), .func (.func fb) #[] #[]] w (Out w0 w g A c L e ov iv (fun _ t v => v = .agg (ent7 t (.slice none 0 0) (.slice none 0 0))) (fun _ => i + 2) r) := by
 have hu46 := Tryz.underlying46
 have hu50 := Tryz.underlying50
 have hi0 : 0 ≤ i + 1 := by omega
 unfold pairF at h
 obtain ⟨p, h1, rfl⟩ | ⟨lo, h1, h⟩ := bX_ok h
 ·clear hbad
  have HS := aM hS
  have HK := aM (KeepBut.refl w g none)
  clear hS
  go_enter Tryz.func122, Tryz.ntmps122
  go_wp2_with (first | ((with_reducible refine gD 4 ?_); refine bE 4 (cs := #[.int .i64 0, .int .i64 0, .int .i64 0, .int .i64 0, .int .i64 0, .slice none 0 0, .slice none 0 0]) (t := 50) ?_; intro gb hg w1 hbox hb; have BKgb := aM hbox; have NEgb := aM (show g ≠ gb by rw [hg]; exact Nat.ne_of_lt (blk_lt HS.out.blk)); have NFgb := aM (Ne.symm NEgb.out); have GEgb := aM (show w0.heap.size ≤ gb by rw [hg]; exact HS.out.below.size); replace HS := aM (HS.out.of_below hb); replace HK := aM (KeepBut.trans HK.out (KeepBut.of_below hb g none) (.inl rfl)); have GW := aM (show w.heap.size ≤ gb by rw [hg]; exact Nat.le_refl _); clear hb hbox hg; obtain ⟨sc0, sc1, sc2, sc3, sc4, sf0, sf1, sf2, sf3, sf4⟩ := b5 HS.out.blk; obtain ⟨gbk0, gbk1, gbk2, gbk3, gbk4, gbk5, gbk6, gbm0, gbm1, gbm2, gbm3, gbm4, gbm5, gbm6⟩ := b7 BKgb; have nqgb := NEgb.out; have nrgb := NFgb.out) | (go_at_call 146; (with_reducible refine (code_calls hC (stC HS) h0 0 _ h1).mono ?_); rintro x w2 ⟨rfl, hk2, hbe⟩))
  exact ⟨rfl, rfl, KeepBut.trans HK.out hk2 (.inl rfl), hbe⟩
 obtain ⟨p, h2, rfl⟩ | ⟨hi, h2, h⟩ := bX_ok h
 ·clear hbad
  have HS := aM hS
  have HK := aM (KeepBut.refl w g none)
  clear hS
  go_enter Tryz.func122, Tryz.ntmps122
  go_wp2_with (first | ((with_reducible refine gD 4 ?_); refine bE 4 (cs := #[.int .i64 0, .int .i64 0, .int .i64 0, .int .i64 0, .int .i64 0, .slice none 0 0, .slice none 0 0]) (t := 50) ?_; intro gb hg w1 hbox hb; have BKgb := aM hbox; have NEgb := aM (show g ≠ gb by rw [hg]; exact Nat.ne_of_lt (blk_lt HS.out.blk)); have NFgb := aM (Ne.symm NEgb.out); have GEgb := aM (show w0.heap.size ≤ gb by rw [hg]; exact HS.out.below.size); replace HS := aM (HS.out.of_below hb); replace HK := aM (KeepBut.trans HK.out (KeepBut.of_below hb g none) (.inl rfl)); have GW := aM (show w.heap.size ≤ gb by rw [hg]; exact Nat.le_refl _); clear hb hbox hg; obtain ⟨sc0, sc1, sc2, sc3, sc4, sf0, sf1, sf2, sf3, sf4⟩ := b5 HS.out.blk; obtain ⟨gbk0, gbk1, gbk2, gbk3, gbk4, gbk5, gbk6, gbm0, gbm1, gbm2, gbm3, gbm4, gbm5, gbm6⟩ := b7 BKgb; have nqgb := NEgb.out; have nrgb := NFgb.out) | (go_at_call 146; (with_reducible refine (code_calls hC (stC HS) h0 0 _ h1).mono ?_); rintro x w2 ⟨v, rfl, rfl, hs2, hk2⟩; have NL := aM (Nat.ne_of_gt (blk_lt hs2.blk)); replace HS := aM hs2; replace BKgb := aM (KeepBut.blk hk2 BKgb.out NFgb.out (by simp)); have NLB := aM (Nat.ne_of_gt (blk_lt BKgb.out)); replace HK := aM (KeepBut.trans HK.out hk2 (.inl rfl)); have BL := aM (blk_new w2 (.cells #[.int .i64 lo.1.f0, .int .i64 lo.1.f1] 46)); clear hs2 hk2) | (go_at_call 146; (with_reducible refine (code_calls hC (stC HS) hi0 lo.1.f0 _ h2).mono ?_); rintro x w3 ⟨rfl, hk3, hbe⟩))
  exact ⟨rfl, rfl, KeepBut.trans (keepA HK.out) hk3 (.inl rfl), hbe⟩
 have hB := fun W => hbad W lo.1 hi.1 (lo.2, hi.2) h1 h2
 clear hbad
 split at h
 ·rename_i hb
  obtain rfl := Option.some.inj h
  rw [hb] at hB
  have HS := aM hS
  have HK := aM (KeepBut.refl w g none)
  clear hS
  go_enter Tryz.func122, Tryz.ntmps122
  go_wp2_with (first | ((with_reducible refine gD 4 ?_); refine bE 4 (cs := #[.int .i64 0, .int .i64 0, .int .i64 0, .int .i64 0, .int .i64 0, .slice none 0 0, .slice none 0 0]) (t := 50) ?_; intro gb hg w1 hbox hb; have BKgb := aM hbox; have NEgb := aM (show g ≠ gb by rw [hg]; exact Nat.ne_of_lt (blk_lt HS.out.blk)); have NFgb := aM (Ne.symm NEgb.out); have GEgb := aM (show w0.heap.size ≤ gb by rw [hg]; exact HS.out.below.size); replace HS := aM (HS.out.of_below hb); replace HK := aM (KeepBut.trans HK.out (KeepBut.of_below hb g none) (.inl rfl)); have GW := aM (show w.heap.size ≤ gb by rw [hg]; exact Nat.le_refl _); clear hb hbox hg; obtain ⟨sc0, sc1, sc2, sc3, sc4, sf0, sf1, sf2, sf3, sf4⟩ := b5 HS.out.blk; obtain ⟨gbk0, gbk1, gbk2, gbk3, gbk4, gbk5, gbk6, gbm0, gbm1, gbm2, gbm3, gbm4, gbm5, gbm6⟩ := b7 BKgb; have nqgb := NEgb.out; have nrgb := NFgb.out) | (go_at_call 146; (with_reducible refine (code_calls hC (stC HS) h0 0 _ h1).mono ?_); rintro x w2 ⟨v, rfl, rfl, hs2, hk2⟩; have NL := aM (Nat.ne_of_gt (blk_lt hs2.blk)); replace HS := aM hs2; replace BKgb := aM (KeepBut.blk hk2 BKgb.out NFgb.out (by simp)); have NLB := aM (Nat.ne_of_gt (blk_lt BKgb.out)); replace HK := aM (KeepBut.trans HK.out hk2 (.inl rfl)); have BL := aM (blk_new w2 (.cells #[.int .i64 lo.1.f0, .int .i64 lo.1.f1] 46)); clear hs2 hk2) | (go_at_call 146; (with_reducible refine (code_calls hC (stC HS) hi0 lo.1.f0 _ h2).mono ?_); rintro x w3 ⟨v, rfl, rfl, hs3, hk3⟩; have NH := aM (Nat.ne_of_gt (blk_lt hs3.blk)); replace HS := aM (hs3.of_below (below_alloc (Below.refl _ _) (.cells #[.int .i64 hi.1.f0, .int .i64 hi.1.f1] 46))); have BL3 := KeepBut.blk hk3 BL.out NL.out (by simp); replace BL := aM (blk_alloc BL3 (.cells #[.int .i64 hi.1.f0, .int .i64 hi.1.f1] 46)); have BK3 := KeepBut.blk hk3 (blk_alloc BKgb.out (.cells #[.int .i64 lo.1.f0, .int .i64 lo.1.f1] 46)) NFgb.out (by simp); replace BKgb := aM (blk_alloc BK3 (.cells #[.int .i64 hi.1.f0, .int .i64 hi.1.f1] 46)); have NHB := aM (Nat.ne_of_gt (blk_lt BK3)); have NHL := aM (Nat.ne_of_gt (blk_lt BL3)); have BH := aM (blk_new w3 (.cells #[.int .i64 hi.1.f0, .int .i64 hi.1.f1] 46)); replace HK := aM (KeepBut.trans (KeepBut.trans (keepA HK.out) hk3 (.inl rfl)) (KeepBut.of_below (below_alloc (Below.refl _ _) (.cells #[.int .i64 hi.1.f0, .int .i64 hi.1.f1] 46)) g none) (.inl rfl)); obtain ⟨lk0, lk1, lm0, lm1⟩ := b2 BL; have nlh := Ne.symm NHL.out; clear hs3 hk3 BL3 BK3) | ((with_reducible refine (hB _).mono ?_); rintro x w4 ⟨rfl, hb4⟩; replace HS := aM (HS.out.of_below hb4); replace BL := aM (blk_below BL.out hb4); replace BH := aM (blk_below BH.out hb4); replace BKgb := aM (blk_below BKgb.out hb4); replace HK := aM (KeepBut.trans HK.out (KeepBut.of_below hb4 g none) (.inl rfl)); clear lk0 lk1 lm0 lm1; obtain ⟨lk0, lk1, lm0, lm1⟩ := b2 BL; obtain ⟨hk0, hk1, hm0, hm1⟩ := b2 BH; clear gbk0 gbk1 gbk2 gbk3 gbk4 gbk5 gbk6 gbm0 gbm1 gbm2 gbm3 gbm4 gbm5 gbm6; obtain ⟨gbk0, gbk1, gbk2, gbk3, gbk4, gbk5, gbk6, gbm0, gbm1, gbm2, gbm3, gbm4, gbm5, gbm6⟩ := b7 BKgb; have n1 := NLB.out; have n2 := Ne.symm NLB.out; have n3 := NHB.out; have n4 := Ne.symm NHB.out; clear hb4) | (go_at_call 33; (with_reducible refine (fail_calls _ _ _).mono ?_); rintro x wf ⟨rfl, hbf⟩))
  exact ⟨rfl, rfl, KeepBut.trans HK.out (KeepBut.of_below hbf g none) (.inl rfl), below_step HS.out.below hbf⟩
 ·rename_i hb
  obtain rfl := Option.some.inj h
  have hb' : bad lo.1 hi.1 = false := by simpa using hb
  rw [hb'] at hB
  have HS := aM hS
  have HK := aM (KeepBut.refl w g none)
  clear hS
  go_enter Tryz.func122, Tryz.ntmps122
  go_wp2_with (first | ((with_reducible refine gD 4 ?_); refine bE 4 (cs := #[.int .i64 0, .int .i64 0, .int .i64 0, .int .i64 0, .int .i64 0, .slice none 0 0, .slice none 0 0]) (t := 50) ?_; intro gb hg w1 hbox hb; have BKgb := aM hbox; have NEgb := aM (show g ≠ gb by rw [hg]; exact Nat.ne_of_lt (blk_lt HS.out.blk)); have NFgb := aM (Ne.symm NEgb.out); have GEgb := aM (show w0.heap.size ≤ gb by rw [hg]; exact HS.out.below.size); replace HS := aM (HS.out.of_below hb); replace HK := aM (KeepBut.trans HK.out (KeepBut.of_below hb g none) (.inl rfl)); have GW := aM (show w.heap.size ≤ gb by rw [hg]; exact Nat.le_refl _); clear hb hbox hg; obtain ⟨sc0, sc1, sc2, sc3, sc4, sf0, sf1, sf2, sf3, sf4⟩ := b5 HS.out.blk; obtain ⟨gbk0, gbk1, gbk2, gbk3, gbk4, gbk5, gbk6, gbm0, gbm1, gbm2, gbm3, gbm4, gbm5, gbm6⟩ := b7 BKgb; have nqgb := NEgb.out; have nrgb := NFgb.out) | (go_at_call 146; (with_reducible refine (code_calls hC (stC HS) h0 0 _ h1).mono ?_); rintro x w2 ⟨v, rfl, rfl, hs2, hk2⟩; have NL := aM (Nat.ne_of_gt (blk_lt hs2.blk)); replace HS := aM hs2; replace BKgb := aM (KeepBut.blk hk2 BKgb.out NFgb.out (by simp)); have NLB := aM (Nat.ne_of_gt (blk_lt BKgb.out)); replace HK := aM (KeepBut.trans HK.out hk2 (.inl rfl)); have BL := aM (blk_new w2 (.cells #[.int .i64 lo.1.f0, .int .i64 lo.1.f1] 46)); clear hs2 hk2) | (go_at_call 146; (with_reducible refine (code_calls hC (stC HS) hi0 lo.1.f0 _ h2).mono ?_); rintro x w3 ⟨v, rfl, rfl, hs3, hk3⟩; have NH := aM (Nat.ne_of_gt (blk_lt hs3.blk)); replace HS := aM (hs3.of_below (below_alloc (Below.refl _ _) (.cells #[.int .i64 hi.1.f0, .int .i64 hi.1.f1] 46))); have BL3 := KeepBut.blk hk3 BL.out NL.out (by simp); replace BL := aM (blk_alloc BL3 (.cells #[.int .i64 hi.1.f0, .int .i64 hi.1.f1] 46)); have BK3 := KeepBut.blk hk3 (blk_alloc BKgb.out (.cells #[.int .i64 lo.1.f0, .int .i64 lo.1.f1] 46)) NFgb.out (by simp); replace BKgb := aM (blk_alloc BK3 (.cells #[.int .i64 hi.1.f0, .int .i64 hi.1.f1] 46)); have NHB := aM (Nat.ne_of_gt (blk_lt BK3)); have NHL := aM (Nat.ne_of_gt (blk_lt BL3)); have BH := aM (blk_new w3 (.cells #[.int .i64 hi.1.f0, .int .i64 hi.1.f1] 46)); replace HK := aM (KeepBut.trans (KeepBut.trans (keepA HK.out) hk3 (.inl rfl)) (KeepBut.of_below (below_alloc (Below.refl _ _) (.cells #[.int .i64 hi.1.f0, .int .i64 hi.1.f1] 46)) g none) (.inl rfl)); obtain ⟨lk0, lk1, lm0, lm1⟩ := b2 BL; have nlh := Ne.symm NHL.out; clear hs3 hk3 BL3 BK3) | ((with_reducible refine (hB _).mono ?_); rintro x w4 ⟨rfl, hb4⟩; replace HS := aM (HS.out.of_below hb4); replace BL := aM (blk_below BL.out hb4); replace BH := aM (blk_below BH.out hb4); replace BKgb := aM (blk_below BKgb.out hb4); replace HK := aM (KeepBut.trans HK.out (KeepBut.of_below hb4 g none) (.inl rfl)); clear lk0 lk1 lm0 lm1; obtain ⟨lk0, lk1, lm0, lm1⟩ := b2 BL; obtain ⟨hk0, hk1, hm0, hm1⟩ := b2 BH; clear gbk0 gbk1 gbk2 gbk3 gbk4 gbk5 gbk6 gbm0 gbm1 gbm2 gbm3 gbm4 gbm5 gbm6; obtain ⟨gbk0, gbk1, gbk2, gbk3, gbk4, gbk5, gbk6, gbm0, gbm1, gbm2, gbm3, gbm4, gbm5, gbm6⟩ := b7 BKgb; have n1 := NLB.out; have n2 := Ne.symm NLB.out; have n3 := NHB.out; have n4 := Ne.symm NHB.out; clear hb4))
  have HB := aM HS.out.below
  have HB2 := aM HS.out.blk
  refine bodyPost_ret (results_cell_row rfl _ _ gb 50 (ent7 ⟨lo.1, hi.1, 0, [], []⟩ (.slice none 0 0) (.slice none 0 0)) (0, 0) _ rfl kQ Tryz.underlying50 rfl (by kernel_rfl)) rfl ?_
  have e2 : i + 1 + 1 = i + 2 := by omega
  exact ⟨_, rfl, rfl, ⟨bQ, HS.out.ge, e2 ▸ kQ⟩, kpQ⟩
end
end Go.Proofs.YtjplnhdplpiogaaGreatDoor.M
end
section
namespace Go.Proofs.YtjplnhdplpiogaaGreatDoor.M
open Go.RowKit Go.Proofs.YtjplnhdplpiogaaGreatDoorW.PrintWords Go.Proofs.YtjplnhdplpiogaaGreatDoorW.PrintLast Go.Proofs.YtjplnhdplpiogaaGreatDoorW.PrintMore
attribute [local go_sem] max2_int min2_int max_two min_two max_three min_three max_four min_four
set_option linter.unusedVariables false
set_option linter.unusedSimpArgs false
def utf_Units.l0 : Nat → List Int → List Int → Option (List Int × Bool)
 | 0, _, _ => none
 | k + 1, x0, x4 => if (x0.length : Int) > 1 then (if 0 < (x0.length : Int) then (if 1 < (x0.length : Int) then (if x4.length < 17592186044416 then (if 2 ≤ (x0.length : Int) then (utf_Units.l0 k (x0.drop 2) (x4 ++ [Go.bits .or .i64 (wrap64 ((wrap64 (rd x0 0)) * 256)) (wrap64 (rd x0 1))])) else (none)) else (none)) else (none)) else (none)) else (some (x4, decide ((x0.length : Int) > 0)))
def utf_Units.f (k : Nat) (l0 : List Int) : Option (List Int × Bool) := utf_Units.l0 k l0 ([] : List Int)
def utf_Units.T4 : Bool × List (List Nat × List Nat) := (true, [([], []), ([], []), ([1], [1]), ([2], [2]), ([3], [3]), ([4], [4]), ([], []), ([6], [6]), ([7], [7]), ([8], [8]), ([5, 9], [5, 9]), ([10], [10]), ([0, 11], [0, 11]), ([12, 12, 0, 1, 2, 3, 4, 5, 6, 7, 8, 9, 10, 11, 12], [0, 12])])
def utf_Units.B4 : List Nat := [0, 0, 2, 6, 14, 30, 0, 64, 192, 448, 1022, 2046, 4095, 8191]
theorem utf_Units.tab4 : rtab .any (opsOf Tryz.f149 4) = utf_Units.T4 := by kernel_rfl
theorem utf_Units.bits4 : waitsOk utf_Units.T4.2 utf_Units.B4 = true := by kernel_rfl
set_option maxHeartbeats 8000000 in
set_option maxRecDepth 100000 in
theorem utf_Units.calls (k : Nat) (P0_ : Nat → Prop) (A0 : Option Addr) (c0 : Nat) (l0 : List Int) (r1 : List Int) (r2 : Bool) (w : World) (hs0 : Kd.V (Kd.int .u8) 5 w w.heap.size (fun k_ => P0_ k_) (.slice A0 l0.length c0) l0) (h : utf_Units.f k l0 = some (r1, r2)) :
  Calls Tryz.prog 149 #[.slice A0 l0.length c0] w fun e w' => ∃ v0_ : Value, e = .returned (.tuple #[v0_, .bool r2]) ∧ Kd.R (Kd.int .i64) 3 w' w.heap.size (fun k_ => (w.heap.size ≤ k_)) v0_ r1 ∧ Below w.heap.size w w' := by
 have HO0 := aM (show Kd.V (Kd.int .u8) 5 w w.heap.size (fun k_ => (P0_ k_ ∨ w.heap.size ≤ k_)) (.slice A0 l0.length c0) l0 from Kd.V_mono hs0 (fun k_ hk => .inl hk))
 have HB := aM (Below.refl w.heap.size w)
 have H : (utf_Units.l0 k l0 ([] : List Int)) = some (r1, r2) := h
 clear h
 have H' := aM H
 clear H
 go_enter Tryz.func149, Tryz.ntmps149
 go_wp2
 go_loopg [0, 4] k (fun kq v0 v4 w' => ∃ (x0_1 : List Int) (x4_1 : List Int), Aside0 (utf_Units.l0 kq x0_1 x4_1 = some (r1, r2)) ∧ Aside0 (kq ≤ k) ∧ Aside0 (Kd.V (Kd.int .u8) 5 w' w.heap.size (fun k_ => (P0_ k_ ∨ w.heap.size ≤ k_) ∧ some k_ ≠ (v4 : Value).ownBlock) v0 x0_1) ∧ Aside0 (Kd.R (Kd.int .i64) 3 w' w.heap.size (fun k_ => (w.heap.size ≤ k_)) v4 x4_1) ∧ Aside0 (Below w.heap.size w w'))
 case atStart => exact ⟨(l0), (([] : List Int)), H', ⟨Nat.le_refl _⟩, ⟨by (with_reducible repeat (first | apply Kd.V_alloc | apply Kd.V_drewN | apply Kd.V_drew)); exact Kd.V_mono HO0.out (fun _ hk => ⟨hk, (by simp [Value.ownBlock])⟩)⟩, ⟨by first | exact Kd.R_nil _ _ _ _ _ | exact Kd.N_nil _ _ _ _ _ | exact Kd.V_nil _ _ _ _ _ | exact Kd.Q_nil _ _ _ _ _ | exact Kd.S_nil _ _ _ _ _⟩, ⟨bQ⟩⟩
 case round =>
  clear H'
  try clear c1
  obtain ⟨x0_1, x4_1, HA, HK1, HO_0, HO_4, HB⟩ := hrel
  cases gk with
  | zero => exact absurd HA.out (by simp [utf_Units.l0])
  | succ k1 =>
   have H := HA.out
   clear HA
   simp only [utf_Units.l0] at H
   refine iNc H ?_ ?_<;>clear H<;>intro H c2
   rotate_left
   ·have c2b0 : decide (1 < (x0_1.length : Int)) = false := decide_eq_false c2
    have c2b1 : decide (1 < x0_1.length) = false := decide_eq_false (by omega)
    clear c2
    simp only [Option.some.injEq, Prod.mk.injEq] at H
    obtain ⟨rfl, rfl⟩ := H
    obtain ⟨Ao11, co11, eo11⟩ := Kd.V_slice HO_0.out
    subst eo11
    go_wp2
    go_ret2
    exact ⟨_, eQ, mQ HO_4, bQ⟩
   have c2b0 : decide (1 < (x0_1.length : Int)) = true := decide_eq_true c2
   have c2b1 : decide (1 < x0_1.length) = true := decide_eq_true (by omega)
   clear c2
   refine iDc H ?_ ?_<;>clear H<;>intro H c3b0 c3
   rotate_left
   ·exact absurd H (by simp)
   have c3b1 : decide (0 < x0_1.length) = true := decide_eq_true (by omega)
   clear c3
   refine iDc H ?_ ?_<;>clear H<;>intro H c4b0 c4
   rotate_left
   ·exact absurd H (by simp)
   have c4b1 : decide (1 < x0_1.length) = true := decide_eq_true (by omega)
   clear c4
   refine iNc H ?_ ?_<;>clear H<;>intro H c5
   rotate_left
   ·exact absurd H (by simp)
   have LMc5 := aM c5
   clear c5
   obtain ⟨y126, hy126⟩ : ∃ y_ : List Int, y_ = (x4_1 ++ [Go.bits .or .i64 (wrap64 ((wrap64 (rd x0_1 0)) * 256)) (wrap64 (rd x0_1 1))]) := ⟨_, rfl⟩
   replace H : (if 2 ≤ (x0_1.length : Int) then (utf_Units.l0 k1 (x0_1.drop 2) y126) else (none)) = some (r1, r2) := by first | (rw [hy126]; with_reducible exact H) | (have H2_ := (Option.bind_some _ _).symm.trans H; rw [hy126]; with_reducible exact H2_) | (have H2_ := (Option.bind_some _ _).symm.trans H; with_reducible exact H2_) | with_reducible exact H | (rw [hy126]; exact H) | exact H
   have Ny126 := aM hy126
   clear hy126
   refine iNc H ?_ ?_<;>clear H<;>intro H c6
   rotate_left
   ·exact absurd H (by simp)
   have c6b0 := eq_true c6
   have c6b1 : decide (2 ≤ (x0_1.length : Int)) = true := decide_eq_true c6
   clear c6
   obtain ⟨y129, hy129⟩ : ∃ y_ : List Int, y_ = (x0_1.drop 2) := ⟨_, rfl⟩
   replace H : (utf_Units.l0 k1 y129 y126) = some (r1, r2) := by first | (rw [hy129]; with_reducible exact H) | (have H2_ := (Option.bind_some _ _).symm.trans H; rw [hy129]; with_reducible exact H2_) | (have H2_ := (Option.bind_some _ _).symm.trans H; with_reducible exact H2_) | with_reducible exact H | (rw [hy129]; exact H) | exact H
   have Ny129 := aM hy129
   clear hy129
   have H' := aM H
   clear H
   obtain ⟨Ao7, co7, eo7⟩ := Kd.V_slice HO_0.out
   subst eo7
   try go_wp2
   have n0_ := aM (Kd.V_drew HO_0.out)
   have n1_ := aM (Kd.R_drew HO_4.out)
   have n2_ := aM (below_drew1 HB.out)
   clear HO_0
   clear HO_4
   clear HB
   have HO_0 := n0_
   have HO_4 := n1_
   have HB := n2_
   clear n0_ n1_ n2_
   have p124 : 0 ≤ (0 : Int) := (by omega)
   have q124 : 0 < (x0_1.length : Int) := of_decide_eq_true hQ
   obtain ⟨ad124, e124, hx124_0⟩ := Kd.at_int (Kd.V_reads' HO_0.out).2.2 0 p124 q124
   cases e124
   have qi124 : (0 < x0_1.length) = True := eq_true (by omega)
   (try rw [show ((0 : Int)).toNat = 0 from rfl] at hx124_0)
   (try rw [Addr.add_zero'] at hx124_0)
   replace p124 := eq_true p124
   replace q124 := eq_true q124
   have p125 : 0 ≤ (1 : Int) := (by omega)
   have q125 : 1 < (x0_1.length : Int) := of_decide_eq_true hQ
   obtain ⟨ad125, e125, hx125_0⟩ := Kd.at_int (Kd.V_reads' HO_0.out).2.2 1 p125 q125
   obtain rfl : ad124 = ad125 := (by injection e125)
   (try simp only [show (1 : Int).toNat = 1 from rfl, Nat.reduceMul, Nat.reduceEqDiff, Go.Addr.add, ↓reduceIte] at hx125_0)
   have qi125 : (1 < x0_1.length) = True := eq_true (by omega)
   (try rw [show ((1 : Int)).toNat = 1 from rfl] at hx125_0)
   replace p125 := eq_true p125
   replace q125 := eq_true q125
   refine start_ (n := 14) (S := fun w' => w'.cell? ad124 = some (.int .u8 (rd x0_1 0)) ∧ w'.cell? ⟨ad124.block, ad124.off + 1, none⟩ = some (.int .u8 (rd x0_1 1))) (ds := [11, 12]) #[false, false, false, false, false, false, false, false, false, false, false, false, false, false] (by kernel_rfl) rfl rfl ⟨hx124_0, hx125_0⟩ (fun hHeld => ?_); refine with_tabW utf_Units.tab4 utf_Units.bits4 (fun HT_ HW_ => ?_)
   generalize wr.drew = w8 at HO_0 HO_4 HB hx124_0 hx125_0 hHeld ⊢
   refine pure_ (i := 0) (N := some 10) (v := ?_) (a' := ?_) #[true, false, false, false, false, false, false, false, false, false, false, false, false, false] rfl rfl (any_of HT_.out (by kernel_rfl)) (fun _ _ _ h => h) (Or.inl ⟨by rfl, ?_⟩) ?_ ?_
   rotate_left
   ·intro w'
    go_simp
    with_reducible rfl
   rotate_left
   ·simp only [Act.put, List.setIfInBounds_toArray, List.set_cons_zero, List.set_cons_succ, i64_w, i32_w]
    rfl
   refine pure_ (i := 1) (N := some 11) (v := ?_) (a' := ?_) #[true, true, false, false, false, false, false, false, false, false, false, false, false, false] rfl rfl (any_of HT_.out (by kernel_rfl)) (fun _ _ _ h => h) (Or.inl ⟨by rfl, ?_⟩) ?_ ?_
   rotate_left
   ·intro w'
    go_simp
    with_reducible rfl
   rotate_left
   ·simp only [Act.put, List.setIfInBounds_toArray, List.set_cons_zero, List.set_cons_succ, i64_w, i32_w]
    rfl
   refine pure_ (i := 2) (N := some 12) (v := ?_) (a' := ?_) #[true, true, true, false, false, false, false, false, false, false, false, false, false, false] rfl rfl (any_of HT_.out (by kernel_rfl)) (fun _ _ _ h => h) (Or.inl ⟨by rfl, ?_⟩) ?_ ?_
   rotate_left
   ·intro w'
    go_simp
    with_reducible rfl
   rotate_left
   ·simp only [Act.put, List.setIfInBounds_toArray, List.set_cons_zero, List.set_cons_succ, i64_w, i32_w]
    rfl
   refine pure_ (i := 6) (N := some 16) (v := ?_) (a' := ?_) #[true, true, true, false, false, false, true, false, false, false, false, false, false, false] rfl rfl (any_of HT_.out (by kernel_rfl)) (fun _ _ _ h => h) (Or.inl ⟨by rfl, ?_⟩) ?_ ?_
   rotate_left
   ·intro w'
    go_simp
    with_reducible rfl
   rotate_left
   ·simp only [Act.put, List.setIfInBounds_toArray, List.set_cons_zero, List.set_cons_succ, i64_w, i32_w]
    rfl
   refine pure_ (i := 7) (N := some 17) (v := ?_) (a' := ?_) #[true, true, true, false, false, false, true, true, false, false, false, false, false, false] rfl rfl (any_of HT_.out (by kernel_rfl)) (fun _ _ _ h => h) (Or.inl ⟨by rfl, ?_⟩) ?_ ?_
   rotate_left
   ·intro w'
    go_simp
    with_reducible rfl
   rotate_left
   ·simp only [Act.put, List.setIfInBounds_toArray, List.set_cons_zero, List.set_cons_succ, i64_w, i32_w]
    rfl
   refine take_ (i := 3) (N := some 13) (v := ?_) (a' := ?_) #[true, true, true, true, false, false, true, true, false, false, false, false, false, false] rfl rfl (take_ofW HT_.out HW_.out (by kernel_rfl)) (fun _ _ _ h => h) (Or.inl ⟨by rfl, ?_⟩) hHeld ?_ ?_
   rotate_left
   ·rintro w' ⟨s0, s1⟩
    go_simp
    with_reducible rfl
   rotate_left
   ·simp only [Act.put, List.setIfInBounds_toArray, List.set_cons_zero, List.set_cons_succ, i64_w, i32_w]
    rfl
   refine pure_ (i := 4) (N := some 14) (v := ?_) (a' := ?_) #[true, true, true, true, true, false, true, true, false, false, false, false, false, false] rfl rfl (any_of HT_.out (by kernel_rfl)) (fun _ _ _ h => h) (Or.inl ⟨by rfl, ?_⟩) ?_ ?_
   rotate_left
   ·intro w'
    go_simp
    with_reducible rfl
   rotate_left
   ·simp only [Act.put, List.setIfInBounds_toArray, List.set_cons_zero, List.set_cons_succ, i64_w, i32_w]
    rfl
   refine pure_ (i := 5) (N := some 15) (v := ?_) (a' := ?_) #[true, true, true, true, true, true, true, true, false, false, false, false, false, false] rfl rfl (any_of HT_.out (by kernel_rfl)) (fun _ _ _ h => h) (Or.inl ⟨by rfl, ?_⟩) ?_ ?_
   rotate_left
   ·intro w'
    go_simp
    with_reducible rfl
   rotate_left
   ·simp only [Act.put, List.setIfInBounds_toArray, List.set_cons_zero, List.set_cons_succ, i64_w, i32_w]
    rfl
   refine take_ (i := 8) (N := some 18) (v := ?_) (a' := ?_) #[true, true, true, true, true, true, true, true, true, false, false, false, false, false] rfl rfl (take_ofW HT_.out HW_.out (by kernel_rfl)) (fun _ _ _ h => h) (Or.inl ⟨by rfl, ?_⟩) hHeld ?_ ?_
   rotate_left
   ·rintro w' ⟨s0, s1⟩
    go_simp
    with_reducible rfl
   rotate_left
   ·simp only [Act.put, List.setIfInBounds_toArray, List.set_cons_zero, List.set_cons_succ, i64_w, i32_w]
    rfl
   refine pure_ (i := 9) (N := some 19) (v := ?_) (a' := ?_) #[true, true, true, true, true, true, true, true, true, true, false, false, false, false] rfl rfl (any_of HT_.out (by kernel_rfl)) (fun _ _ _ h => h) (Or.inl ⟨by rfl, ?_⟩) ?_ ?_
   rotate_left
   ·intro w'
    go_simp
    with_reducible rfl
   rotate_left
   ·simp only [Act.put, List.setIfInBounds_toArray, List.set_cons_zero, List.set_cons_succ, i64_w, i32_w]
    rfl
   refine pure_ (i := 10) (N := some 20) (v := ?_) (a' := ?_) #[true, true, true, true, true, true, true, true, true, true, true, false, false, false] rfl rfl (any_of HT_.out (by kernel_rfl)) (fun _ _ _ h => h) (Or.inl ⟨by rfl, ?_⟩) ?_ ?_
   rotate_left
   ·intro w'
    go_simp
    with_reducible rfl
   rotate_left
   ·simp only [Act.put, List.setIfInBounds_toArray, List.set_cons_zero, List.set_cons_succ, i64_w, i32_w]
    rfl
   refine last_ (i := 11) (N := some 21) #[true, true, true, true, true, true, true, true, true, true, true, true, false, false] rfl rfl (one_of HT_.out (by kernel_rfl)) (by decide) (fun K hK => ?_)
   refine value_ (w1 := ?_) (v := ?_) (by rfl) rfl ?_ ?_
   rotate_left 2
   ·go_simp
    constructor
    ·rfl
    ·rfl
   refine hK.out _ _ ?_
   clear hK K
   refine norm_ (a' := ?_) ?_ ?_
   rotate_left
   ·show Act.put _ (some 21) _ = _
    simp only [Act.put, List.setIfInBounds_toArray, List.set_cons_zero, List.set_cons_succ, i64_w, i32_w]
    rfl
   refine last_ (i := 12) (N := some 22) #[true, true, true, true, true, true, true, true, true, true, true, true, true, false] rfl rfl (one_of HT_.out (by kernel_rfl)) (by decide) (fun K hK => ?_)
   refine Kd.R_append_step (Kd.int .i64) (w0 := w) w.heap.size (by rfl) (.tmp 10) (.tmp 21) 47 3 (.int .i64 0) 8 rfl Tryz.underlying47 info3 rfl (by decide) (by omega) u4 x4_1 (Go.bits .or .i64 (wrap64 ((wrap64 (rd x0_1 0)) * 256)) (wrap64 (rd x0_1 1))) [.int .i64 (Go.bits .or .i64 (wrap64 ((wrap64 (rd x0_1 0)) * 256)) (wrap64 (rd x0_1 1)))] (fun k_ => (w.heap.size ≤ k_)) (fun _ => False) rfl rfl ?aP (fun _ hk => hk.elim) ?aF ?aO ?aB ?aS ?aL ?_
   (case aP => exact rfl)
   (case aB => exact bQ)
   (case aF => exact (fun k_ hk => (Nat.le_trans (below_size bQ) hk)))
   (case aO => exact (mQ HO_4))
   (case aS => exact (below_size bQ))
   (case aL => have := LMc5.out; omega)
   intro v127 w9 ho hb hg hat
   rw [← Ny126.out] at ho
   have n0_ := aM (Kd.V_afterv (ok := (fun k_ => (P0_ k_ ∨ w.heap.size ≤ k_))) (by (with_reducible repeat (first | apply Kd.V_alloc | apply Kd.V_drewN | apply Kd.V_drew)); exact HO_0.out) hg hat)
   have n1_ := aM (hb)
   have n2_ := aM (ho)
   clear HO_0
   clear HB
   clear HO_4
   have HO_0 := n0_
   have HB := n1_
   have HO128 := n2_
   clear n0_ n1_ n2_
   clear ho hb hg hat
   refine hK.out _ _ ?_
   clear hK K
   refine norm_ (a' := ?_) ?_ ?_
   rotate_left
   ·show Act.put _ (some 22) _ = _
    simp only [Act.put, List.setIfInBounds_toArray, List.set_cons_zero, List.set_cons_succ, i64_w, i32_w]
    rfl
   refine pure_ (i := 13) (N := some 4) (v := ?_) (a' := ?_) #[true, true, true, true, true, true, true, true, true, true, true, true, true, true] rfl rfl (any_of HT_.out (by kernel_rfl)) (fun _ _ _ h => h) (Or.inl ⟨by rfl, ?_⟩) ?_ ?_
   rotate_left
   ·intro w'
    go_simp
    with_reducible rfl
   rotate_left
   ·simp only [Act.put, List.setIfInBounds_toArray, List.set_cons_zero, List.set_cons_succ, i64_w, i32_w]
    rfl
   refine done_ (done_of HT_.out (by kernel_rfl)) ?_
   have q10 : (2 : Int) ≤ ((x0_1.length : Int) : Int) := of_decide_eq_true hQ
   obtain ⟨i010, hi010, _, hsz10, _⟩ := info_parts info5
   have hroom10 : x0_1.length ≤ co7 := (Kd.V_reads' HO_0.out).2.1
   have hC10 : Kd.F (Kd.int .u8) _ _ (some ad124) x0_1.length x0_1 := (Kd.V_at (base := w.heap.size) HO_0.out).2.2
   have hcut10 := cut_from (P := Tryz.prog) 52 5 .i64 Tryz.underlying52 hi010 1 hsz10 (some ad124) x0_1.length co7 2 (by omega) q10
   have hr10 := Kd.F_cut (m := (2 : Int).toNat) (c := co7) hC10 (by omega) hroom10
   obtain ⟨A10, hA10⟩ : ∃ A1, A1 = (if co7 = (2 : Int).toNat then (some ad124) else ((some ad124) : Option Addr).map (·.add ((2 : Int).toNat * 1))) := ⟨_, rfl⟩
   obtain ⟨c10, hc10⟩ : ∃ c1, c1 = co7 - (2 : Int).toNat := ⟨_, rfl⟩
   have hy10 : y129.length = x0_1.length - (2 : Int).toNat := (by rw [Ny129.out, List.length_drop] <;> omega)
   rw [show (x0_1).drop (2 : Int).toNat = y129 from Ny129.out.symm] at hr10
   replace hr10 : Kd.F (Kd.int .u8) _ _ A10 y129.length y129 := (by rw [hA10]; exact hr10)
   rw [← hy10, ← hA10, ← hc10] at hcut10
   have HO133 := aM (show Kd.V (Kd.int .u8) 5 _ w.heap.size _ (.slice A10 y129.length c10) y129 from Kd.V_mk (by rw [hy10, hc10]; exact Nat.sub_le_sub_right hroom10 _) hr10)
   have HC133 := aM (show y129.length ≤ c10 from by rw [hy10, hc10]; exact Nat.sub_le_sub_right hroom10 _)
   clear hr10 hC10 hroom10 hi010 hsz10 hc10
   have KY10 := aM hy10
   have KA10 := aM hA10
   clear hy10 hA10
   replace q10 := eq_true q10
   try go_wp2
   go_roundg k1
   case measure => have := HK1.out; omega
   case rel => exact ⟨(y129), (y126), H', ⟨by have := HK1.out; omega⟩, ⟨by (with_reducible repeat (first | apply Kd.V_alloc | apply Kd.V_drewN | apply Kd.V_drew)); exact HO133.out⟩, ⟨mQ HO128⟩, ⟨bQ⟩⟩
def hex_Sane.f (a0_0 : Int) (a0_1 : Int) : Option (Bool) := if a0_0 ≥ 1 then (if a0_0 ≤ 4 then (if a0_1 ≥ 0 then (if 0 ≤ (IntKind.u64.wrap (wrap64 (8 * a0_0))) then (some ((shr .i64 a0_1 (IntKind.u64.wrap (wrap64 (8 * a0_0)))) == 0)) else (none)) else (some false)) else (some false)) else (some false)
set_option maxHeartbeats 8000000 in
set_option maxRecDepth 100000 in
theorem hex_Sane.calls (a0_0 : Int) (a0_1 : Int) (r : Bool) (w : World) (h : hex_Sane.f a0_0 a0_1 = some r) :
  Calls Tryz.prog 29 #[.agg #[.int .i64 a0_0, .int .i64 a0_1]] w fun e w' => e = .returned (.bool r) ∧ Below w.heap.size w w' := by
 have hu46 := Tryz.underlying46
 have HB := aM (Below.refl w.heap.size w)
 have H : (if a0_0 ≥ 1 then (if a0_0 ≤ 4 then (if a0_1 ≥ 0 then (if 0 ≤ (IntKind.u64.wrap (wrap64 (8 * a0_0))) then (some ((shr .i64 a0_1 (IntKind.u64.wrap (wrap64 (8 * a0_0)))) == 0)) else (none)) else (some false)) else (some false)) else (some false)) = some r := h
 clear h
 refine iNc H ?_ ?_<;>clear H<;>intro H c2
 rotate_left
 ·have c2b0 : decide (1 ≤ a0_0) = false := decide_eq_false c2
  clear c2
  obtain rfl := Option.some.inj H
  go_enter Tryz.func29, Tryz.ntmps29
  go_wp2_with (first | ((with_reducible refine gD 1 ?_); refine bE 1 (cs := #[.int .i64 a0_0, .int .i64 a0_1]) (t := 46) ?_; intro gb106 hg w14 hbox hb; have BK106 := aM hbox; have GW106 := sG w hg; have GE106 := sG w hg; replace HB := sB hb; clear hb hbox hg; have hcz15_0 : w14.cell? ⟨gb106, 0, none⟩ = some (.int .i64 a0_0) := (blk_cell BK106.out 0).trans rfl; have hcz15_1 : w14.cell? ⟨gb106, 1, none⟩ = some (.int .i64 a0_1) := (blk_cell BK106.out 1).trans rfl; have hfz15_0 := blk_frozen BK106.out 0; have hfz15_1 := blk_frozen BK106.out 1))
  go_ret
  exact ⟨eQ, bQ⟩
 have c2b0 : decide (1 ≤ a0_0) = true := decide_eq_true c2
 clear c2
 refine iD H ?_ ?_<;>clear H<;>intro H c3b0
 rotate_left
 ·obtain rfl := Option.some.inj H
  go_enter Tryz.func29, Tryz.ntmps29
  go_wp2_with (first | ((with_reducible refine gD 1 ?_); refine bE 1 (cs := #[.int .i64 a0_0, .int .i64 a0_1]) (t := 46) ?_; intro gb106 hg w12 hbox hb; have BK106 := aM hbox; have GW106 := sG w hg; have GE106 := sG w hg; replace HB := sB hb; clear hb hbox hg; have hcz13_0 : w12.cell? ⟨gb106, 0, none⟩ = some (.int .i64 a0_0) := (blk_cell BK106.out 0).trans rfl; have hcz13_1 : w12.cell? ⟨gb106, 1, none⟩ = some (.int .i64 a0_1) := (blk_cell BK106.out 1).trans rfl; have hfz13_0 := blk_frozen BK106.out 0; have hfz13_1 := blk_frozen BK106.out 1))
  go_ret
  exact ⟨eQ, bQ⟩
 refine iNc H ?_ ?_<;>clear H<;>intro H c4
 rotate_left
 ·have c4b0 : decide (0 ≤ a0_1) = false := decide_eq_false c4
  clear c4
  obtain rfl := Option.some.inj H
  go_enter Tryz.func29, Tryz.ntmps29
  go_wp2_with (first | ((with_reducible refine gD 1 ?_); refine bE 1 (cs := #[.int .i64 a0_0, .int .i64 a0_1]) (t := 46) ?_; intro gb106 hg w10 hbox hb; have BK106 := aM hbox; have GW106 := sG w hg; have GE106 := sG w hg; replace HB := sB hb; clear hb hbox hg; have hcz11_0 : w10.cell? ⟨gb106, 0, none⟩ = some (.int .i64 a0_0) := (blk_cell BK106.out 0).trans rfl; have hcz11_1 : w10.cell? ⟨gb106, 1, none⟩ = some (.int .i64 a0_1) := (blk_cell BK106.out 1).trans rfl; have hfz11_0 := blk_frozen BK106.out 0; have hfz11_1 := blk_frozen BK106.out 1))
  go_ret
  exact ⟨eQ, bQ⟩
 have c4b0 : decide (0 ≤ a0_1) = true := decide_eq_true c4
 clear c4
 obtain ⟨ji5, hji5⟩ : ∃ j_ : Int, (IntKind.u64.wrap (wrap64 (8 * a0_0))) = j_ := ⟨_, rfl⟩
 replace H : (if 0 ≤ (ji5) then (some ((shr .i64 a0_1 (ji5)) == 0)) else (none)) = some r := by first | (rw [hji5] at H; exact H) | (simp only [hji5] at H ⊢; exact H)
 refine iNc H ?_ ?_<;>clear H<;>intro H c6
 rotate_left
 ·exact absurd H (by simp)
 have c6b0 := eq_true c6
 have c6b1 : decide (0 ≤ (ji5)) = true := decide_eq_true c6
 clear c6
 obtain ⟨ji7, hji7⟩ : ∃ j_ : Int, (shr .i64 a0_1 (ji5)) = j_ := ⟨_, rfl⟩
 replace H : (some ((ji7) == 0)) = some r := by first | (rw [hji7] at H; exact H) | (simp only [hji7] at H ⊢; exact H)
 have hji7_ : (a0_1 / 2 ^ min (ji5).toNat 64) = ji7 := hji7
 have hji7z : (ji5) ≤ 64 → (a0_1 / 2 ^ (ji5).toNat) = ji7 := shr_small hji7
 obtain rfl := Option.some.inj H
 go_enter Tryz.func29, Tryz.ntmps29
 go_wp2_with (first | ((with_reducible refine gD 1 ?_); refine bE 1 (cs := #[.int .i64 a0_0, .int .i64 a0_1]) (t := 46) ?_; intro gb106 hg w8 hbox hb; have BK106 := aM hbox; have GW106 := sG w hg; have GE106 := sG w hg; replace HB := sB hb; clear hb hbox hg; have hcz9_0 : w8.cell? ⟨gb106, 0, none⟩ = some (.int .i64 a0_0) := (blk_cell BK106.out 0).trans rfl; have hcz9_1 : w8.cell? ⟨gb106, 1, none⟩ = some (.int .i64 a0_1) := (blk_cell BK106.out 1).trans rfl; have hfz9_0 := blk_frozen BK106.out 0; have hfz9_1 := blk_frozen BK106.out 1))
 go_ret
 exact ⟨by first | rfl | (simp [errW_none, errW_some] <;> rfl) | (simp only [← hji5, ← hji7]; first | rfl | (simp [errW_none, errW_some] <;> rfl)) | (simp [*, errW_none, errW_some] <;> rfl), bQ⟩
def hex_Bytes.l0 : Nat → List Int → Int → Int → Int → Option (List Int)
 | 0, _, _, _, _ => none
 | k + 1, x3, x4, x108000, x108001 => if x4 ≥ 0 then (if 0 ≤ (IntKind.u64.wrap (wrap64 (8 * x4))) then (if x3.length < 140737488355328 then (hex_Bytes.l0 k (x3 ++ [(shr .i64 x108001 (IntKind.u64.wrap (wrap64 (8 * x4)))) % 256]) (wrap64 (x4 - 1)) x108000 x108001) else (none)) else (none)) else (some x3)
def hex_Bytes.f (k : Nat) (a0_0 : Int) (a0_1 : Int) : Option (List Int) := (hex_Sane.f a0_0 a0_1).bind fun t108 => (if t108 = true then (hex_Bytes.l0 k ([] : List Int) (wrap64 (a0_0 - 1)) a0_0 a0_1) else (some ([] : List Int)))
set_option maxHeartbeats 8000000 in
set_option maxRecDepth 100000 in
theorem hex_Bytes.calls (k : Nat) (a0_0 : Int) (a0_1 : Int) (r : List Int) (w : World) (h : hex_Bytes.f k a0_0 a0_1 = some r) :
  Calls Tryz.prog 147 #[.agg #[.int .i64 a0_0, .int .i64 a0_1]] w fun e w' => ∃ v0_ : Value, e = .returned (v0_) ∧ Kd.R (Kd.int .u8) 5 w' w.heap.size (fun _ => True) v0_ r ∧ Below w.heap.size w w' := by
 have hu46 := Tryz.underlying46
 have HB := aM (Below.refl w.heap.size w)
 have H : ((hex_Sane.f a0_0 a0_1).bind fun t108 => (if t108 = true then (hex_Bytes.l0 k ([] : List Int) (wrap64 (a0_0 - 1)) a0_0 a0_1) else (some ([] : List Int)))) = some r := h
 clear h
 replace H := bS H
 obtain ⟨t108, A2, H⟩ := H
 try dsimp only at H
 by_cases c3 : t108 = true
 rotate_left
 ·replace c3 := Bool.eq_false_iff.mpr c3
  subst c3
  rw [if_neg (show ¬ (false = true) by decide)] at H
  obtain rfl := Option.some.inj H
  go_enter Tryz.func147, Tryz.ntmps147
  go_wp2_with (first | ((with_reducible refine gD 1 ?_); refine bE 1 (cs := #[.int .i64 a0_0, .int .i64 a0_1]) (t := 46) ?_; intro gb107 hg w15 hbox hb; have BK107 := aM hbox; have GW107 := sG w hg; have GE107 := sG w hg; replace HB := sB hb; clear hb hbox hg; have hcz16_0 : w15.cell? ⟨gb107, 0, none⟩ = some (.int .i64 a0_0) := (blk_cell BK107.out 0).trans rfl; have hcz16_1 : w15.cell? ⟨gb107, 1, none⟩ = some (.int .i64 a0_1) := (blk_cell BK107.out 1).trans rfl; have hfz16_0 := blk_frozen BK107.out 0; have hfz16_1 := blk_frozen BK107.out 1) | ((with_reducible refine gC 29 ?_); refine gL (some 6) Tryz.func29 #[.agg #[.int .i64 a0_0, .int .i64 a0_1]] ?_; (with_reducible refine cB (hex_Sane.calls a0_0 a0_1 false _ A2.out) ?_); intro w17 hb; replace BK107 := kK BK107 hb; replace HB := sB hb; clear hb))
  go_ret
  exact ⟨_, eQ, by first | exact Kd.R_nil _ _ _ _ _ | exact Kd.N_nil _ _ _ _ _ | exact Kd.V_nil _ _ _ _ _ | exact Kd.Q_nil _ _ _ _ _ | exact Kd.S_nil _ _ _ _ _, bQ⟩
 subst c3
 rw [if_pos rfl] at H
 have H' := aM H
 clear H
 go_enter Tryz.func147, Tryz.ntmps147
 go_wp2_with (first | ((with_reducible refine gD 1 ?_); refine bE 1 (cs := #[.int .i64 a0_0, .int .i64 a0_1]) (t := 46) ?_; intro gb107 hg w4 hbox hb; have BK107 := aM hbox; have GW107 := sG w hg; have GE107 := sG w hg; replace HB := sB hb; clear hb hbox hg; have hcz5_0 : w4.cell? ⟨gb107, 0, none⟩ = some (.int .i64 a0_0) := (blk_cell BK107.out 0).trans rfl; have hcz5_1 : w4.cell? ⟨gb107, 1, none⟩ = some (.int .i64 a0_1) := (blk_cell BK107.out 1).trans rfl; have hfz5_0 := blk_frozen BK107.out 0; have hfz5_1 := blk_frozen BK107.out 1) | ((with_reducible refine gC 29 ?_); refine gL (some 6) Tryz.func29 #[.agg #[.int .i64 a0_0, .int .i64 a0_1]] ?_; (with_reducible refine cB (hex_Sane.calls a0_0 a0_1 true _ A2.out) ?_); intro w6 hb; replace BK107 := kK BK107 hb; replace HB := sB hb; clear hb; have hcz7_0 : w6.cell? ⟨gb107, 0, none⟩ = some (.int .i64 a0_0) := (blk_cell BK107.out 0).trans rfl; have hcz7_1 : w6.cell? ⟨gb107, 1, none⟩ = some (.int .i64 a0_1) := (blk_cell BK107.out 1).trans rfl; have hfz7_0 := blk_frozen BK107.out 0; have hfz7_1 := blk_frozen BK107.out 1))
 go_loopg [3, 4] k (fun kq v3 v4 w' => ∃ (x3_1 : List Int) (x4_1 : Int), v4 = .int .i64 x4_1 ∧ Aside0 (hex_Bytes.l0 kq x3_1 x4_1 a0_0 a0_1 = some r) ∧ Aside0 (kq ≤ k) ∧ Aside0 (Kd.R (Kd.int .u8) 5 w' w.heap.size (fun _ => True) v3 x3_1) ∧ Aside0 (w'.heap[gb107]? = some (.cells #[.int .i64 a0_0, .int .i64 a0_1] 46 (0, 0))) ∧ Aside0 (Below w.heap.size w w'))
 case atStart => exact ⟨(([] : List Int)), (wrap64 (a0_0 - 1)), vQ, H', ⟨Nat.le_refl _⟩, ⟨by first | exact Kd.R_nil _ _ _ _ _ | exact Kd.N_nil _ _ _ _ _ | exact Kd.V_nil _ _ _ _ _ | exact Kd.Q_nil _ _ _ _ _ | exact Kd.S_nil _ _ _ _ _⟩, ⟨kQ⟩, ⟨bQ⟩⟩
 case round =>
  clear H'
  try clear c1
  try clear c2
  try clear p2
  try clear c3
  try clear p6
  try clear hcz5_0
  try clear hcz5_1
  try clear hcz7_0
  try clear hcz7_1
  try clear hfz5_0
  try clear hfz5_1
  try clear hfz7_0
  try clear hfz7_1
  obtain ⟨x3_1, x4_1, rfl, HA, HK1, HO_3, BK107, HB⟩ := hrel
  cases gk with
  | zero => exact absurd HA.out (by simp [hex_Bytes.l0])
  | succ k1 =>
   have H := HA.out
   clear HA
   simp only [hex_Bytes.l0] at H
   refine iNc H ?_ ?_<;>clear H<;>intro H c8
   rotate_left
   ·have c8b0 : decide (0 ≤ x4_1) = false := decide_eq_false c8
    clear c8
    obtain rfl := Option.some.inj H
    go_wp2
    go_ret
    exact ⟨_, eQ, mQ HO_3, bQ⟩
   have c8b0 : decide (0 ≤ x4_1) = true := decide_eq_true c8
   clear c8
   obtain ⟨ji9, hji9⟩ : ∃ j_ : Int, (IntKind.u64.wrap (wrap64 (8 * x4_1))) = j_ := ⟨_, rfl⟩
   replace H : (if 0 ≤ (ji9) then (if x3_1.length < 140737488355328 then (hex_Bytes.l0 k1 (x3_1 ++ [(shr .i64 a0_1 (ji9)) % 256]) (wrap64 (x4_1 - 1)) a0_0 a0_1) else (none)) else (none)) = some r := by first | (rw [hji9] at H; exact H) | (simp only [hji9] at H ⊢; exact H)
   refine iNc H ?_ ?_<;>clear H<;>intro H c10
   rotate_left
   ·exact absurd H (by simp)
   have c10b0 := eq_true c10
   have c10b1 : decide (0 ≤ (ji9)) = true := decide_eq_true c10
   clear c10
   obtain ⟨ji11, hji11⟩ : ∃ j_ : Int, (shr .i64 a0_1 (ji9)) = j_ := ⟨_, rfl⟩
   replace H : (if x3_1.length < 140737488355328 then (hex_Bytes.l0 k1 (x3_1 ++ [(ji11) % 256]) (wrap64 (x4_1 - 1)) a0_0 a0_1) else (none)) = some r := by first | (rw [hji11] at H; exact H) | (simp only [hji11] at H ⊢; exact H)
   have hji11_ : (a0_1 / 2 ^ min (ji9).toNat 64) = ji11 := hji11
   have hji11z : (ji9) ≤ 64 → (a0_1 / 2 ^ (ji9).toNat) = ji11 := shr_small hji11
   refine iNc H ?_ ?_<;>clear H<;>intro H c12
   rotate_left
   ·exact absurd H (by simp)
   have LMc12 := aM c12
   clear c12
   obtain ⟨y109, hy109⟩ : ∃ y_ : List Int, y_ = (x3_1 ++ [(ji11) % 256]) := ⟨_, rfl⟩
   replace H : (hex_Bytes.l0 k1 y109 (wrap64 (x4_1 - 1)) a0_0 a0_1) = some r := by first | (rw [hy109]; with_reducible exact H) | (have H2_ := (Option.bind_some _ _).symm.trans H; rw [hy109]; with_reducible exact H2_) | (have H2_ := (Option.bind_some _ _).symm.trans H; with_reducible exact H2_) | with_reducible exact H | (rw [hy109]; exact H) | exact H
   have Ny109 := aM hy109
   clear hy109
   have H' := aM H
   clear H
   have hcz13_0 : wr.cell? ⟨gb107, 0, none⟩ = some (.int .i64 a0_0) := (blk_cell BK107.out 0).trans rfl
   have hcz13_1 : wr.cell? ⟨gb107, 1, none⟩ = some (.int .i64 a0_1) := (blk_cell BK107.out 1).trans rfl
   have hfz13_0 := blk_frozen BK107.out 0
   have hfz13_1 := blk_frozen BK107.out 1
   go_wp2_with (first | ((with_reducible refine gate_builtin (b := .append) (xs := #[.tmp 15, .tmp 23]) rfl ?_); at_builtin; refine Kd.R_append (Kd.int .u8) (w0 := w) w.heap.size rfl (.tmp 15) (.tmp 23) 52 5 (.int .u8 0) 1 rfl Tryz.underlying52 info5 rfl (by decide) (by omega) u3 x3_1 ((ji11) % 256) [.int .u8 ((ji11) % 256)] (fun _ => True) (fun _ => False) rfl rfl ?aP (fun _ hk => hk.elim) ?aF ?aO ?aB ?aS ?aL ?_; (case aP => exact rfl); (case aB => exact bQ); (case aF => exact (fun _ _ => trivial)); (case aO => exact (mQ HO_3)); (case aS => exact (below_size bQ)); (case aL => have := LMc12.out; omega); intro v110 w14 ho hb hg hat; rw [← Ny109.out] at ho; have n0_ := aM (blk_grown (g := gb107) (o := .cells #[.int .i64 a0_0, .int .i64 a0_1] 46 (0, 0)) kQ hg (Kd.R_ne HO_3.out BK107.out (by decide))); have n1_ := aM hb; have n2_ := aM ho; clear BK107; clear HB; clear HO_3; have BK107 := n0_; have HB := n1_; have HO111 := n2_; clear n0_ n1_ n2_; clear ho hb hg hat))
   go_roundg k1
   case measure => have := HK1.out; omega
   case rel => exact ⟨(y109), (wrap64 (x4_1 - 1)), vQ, H', ⟨by have := HK1.out; omega⟩, ⟨mQ HO111⟩, ⟨kQ⟩, ⟨bQ⟩⟩
def syn_outside.l0 : Nat → List Int → Int → Int → Int → Int → Option (Bool)
 | 0, _, _, _, _, _ => none
 | k + 1, x8, x9, x10, x114000, x114001 => if x10 < x9 then (if 0 ≤ x10 then (if x10 < (x8.length : Int) then ((hex_Bytes.f k x114000 x114001).bind fun t118 => (if x10 < (t118.length : Int) then (if (rd t118 x10) < (rd x8 x10) then (some true) else (syn_outside.l0 k x8 x9 (wrap64 (x10 + 1)) x114000 x114001)) else (none))) else (none)) else (none)) else (some false)
def syn_outside.f (k : Nat) (a0_0 : Int) (a0_1 : Int) (a1_0 : Int) (a1_1 : Int) : Option (Bool) := (hex_Bytes.f k a0_0 a0_1).bind fun t114 => (syn_outside.l0 k t114 (t114.length : Int) 0 a1_0 a1_1)
set_option maxHeartbeats 8000000 in
set_option maxRecDepth 100000 in
theorem syn_outside.calls (k : Nat) (a0_0 : Int) (a0_1 : Int) (a1_0 : Int) (a1_1 : Int) (r : Bool) (w : World) (h : syn_outside.f k a0_0 a0_1 a1_0 a1_1 = some r) :
  Calls Tryz.prog 123 #[.agg #[.int .i64 a0_0, .int .i64 a0_1], .agg #[.int .i64 a1_0, .int .i64 a1_1]] w fun e w' => e = .returned (.bool r) ∧ Below w.heap.size w w' := by
 have hu46 := Tryz.underlying46
 have HB := aM (Below.refl w.heap.size w)
 have H : ((hex_Bytes.f k a0_0 a0_1).bind fun t114 => (syn_outside.l0 k t114 (t114.length : Int) 0 a1_0 a1_1)) = some r := h
 clear h
 replace H := bS H
 obtain ⟨t114, A3, H⟩ := H
 try dsimp only at H
 have H' := aM H
 clear H
 go_enter Tryz.func123, Tryz.ntmps123
 go_wp2_with (first | ((with_reducible refine gD 2 ?_); refine bE 2 (cs := #[.int .i64 a0_0, .int .i64 a0_1]) (t := 46) ?_; intro gb112 hg w4 hbox hb; have BK112 := aM hbox; have GW112 := sG w hg; have GE112 := sG w hg; replace HB := sB hb; clear hb hbox hg) | ((with_reducible refine gD 3 ?_); refine bE 3 (cs := #[.int .i64 a1_0, .int .i64 a1_1]) (t := 46) ?_; intro gb113 hg w5 hbox hb; have BK113 := aM hbox; have GW113 := sG w hg; have GE113 := sG w hg; replace HB := sB hb; have NB112_113 := aM ((by rw [hg]; exact Nat.ne_of_lt (blk_lt (g := gb112) (o := .cells #[.int .i64 a0_0, .int .i64 a0_1] 46 (0, 0)) kQ) : gb112 ≠ gb113)); have NB113_112 := aM ((by rw [hg]; exact Nat.ne_of_gt (blk_lt (g := gb112) (o := .cells #[.int .i64 a0_0, .int .i64 a0_1] 46 (0, 0)) kQ) : gb113 ≠ gb112)); replace BK112 := kK BK112 hb; clear hb hbox hg; have hnb6 := NB112_113.out; have hnc6 := NB113_112.out; have hcz7_0 : w5.cell? ⟨gb112, 0, none⟩ = some (.int .i64 a0_0) := (blk_cell BK112.out 0).trans rfl; have hcz7_1 : w5.cell? ⟨gb112, 1, none⟩ = some (.int .i64 a0_1) := (blk_cell BK112.out 1).trans rfl; have hfz7_0 := blk_frozen BK112.out 0; have hfz7_1 := blk_frozen BK112.out 1) | ((with_reducible refine gC 147 ?_); refine gL (some 8) Tryz.func147 #[.agg #[.int .i64 a0_0, .int .i64 a0_1]] ?_; (with_reducible refine (hex_Bytes.calls k a0_0 a0_1 t114 _ A3.out).mono ?_); rintro e w8 ⟨v115, rfl, ho0, hb⟩; refine ⟨_, rfl, ?_⟩; have HO116 := lK ho0; replace BK112 := kK BK112 hb; replace BK113 := kK BK113 hb; replace HB := sB hb; clear hb ho0; obtain ⟨Ao9, co9, eo9⟩ := Kd.R_slice HO116.out; subst eo9))
 go_loopg [10] k (fun kq v10 w' => ∃ (x10_1 : Int), v10 = .int .i64 x10_1 ∧ Aside0 (syn_outside.l0 kq t114 (t114.length : Int) x10_1 a1_0 a1_1 = some r) ∧ Aside0 (kq ≤ k) ∧ Aside0 (Kd.R (Kd.int .u8) 5 w' w.heap.size (fun _ => True) (.slice Ao9 t114.length co9) t114) ∧ Aside0 (w'.heap[gb112]? = some (.cells #[.int .i64 a0_0, .int .i64 a0_1] 46 (0, 0))) ∧ Aside0 (w'.heap[gb113]? = some (.cells #[.int .i64 a1_0, .int .i64 a1_1] 46 (0, 0))) ∧ Aside0 (Below w.heap.size w w'))
 case atStart => exact ⟨(0), vQ, H', ⟨Nat.le_refl _⟩, ⟨mQ HO116⟩, ⟨kQ⟩, ⟨kQ⟩, ⟨bQ⟩⟩
 case round =>
  clear H'
  try clear c1
  try clear p2
  try clear c6
  try clear hcz7_0
  try clear hcz7_1
  try clear hfz7_0
  try clear hfz7_1
  obtain ⟨x10_1, rfl, HA, HK1, HO_8, BK112, BK113, HB⟩ := hrel
  cases gk with
  | zero => exact absurd HA.out (by simp [syn_outside.l0])
  | succ k1 =>
   have H := HA.out
   clear HA
   simp only [syn_outside.l0] at H
   refine iD H ?_ ?_<;>clear H<;>intro H c10b0
   rotate_left
   ·obtain rfl := Option.some.inj H
    go_wp2
    go_ret
    exact ⟨eQ, bQ⟩
   refine iD H ?_ ?_<;>clear H<;>intro H c11b0
   rotate_left
   ·exact absurd H (by simp)
   refine iD H ?_ ?_<;>clear H<;>intro H c12b0
   rotate_left
   ·exact absurd H (by simp)
   replace H := bS H
   obtain ⟨t118, A13, H⟩ := H
   try dsimp only at H
   refine iD H ?_ ?_<;>clear H<;>intro H c14b0
   rotate_left
   ·exact absurd H (by simp)
   refine iD H ?_ ?_<;>clear H<;>intro H c15b0
   ·obtain rfl := Option.some.inj H
    have p117 : 0 ≤ (x10_1 : Int) := of_decide_eq_true hQ
    have q117 : x10_1 < (t114.length : Int) := of_decide_eq_true hQ
    obtain ⟨ad117, e117, hx117_0⟩ := Kd.at_int (Kd.R_reads' HO_8.out).2.2 x10_1 p117 q117
    cases e117
    replace p117 := eq_true p117
    replace q117 := eq_true q117
    have hnb16 := NB113_112.out
    have hnc16 := NB112_113.out
    have hcz17_0 : wr.cell? ⟨gb113, 0, none⟩ = some (.int .i64 a1_0) := (blk_cell BK113.out 0).trans rfl
    have hcz17_1 : wr.cell? ⟨gb113, 1, none⟩ = some (.int .i64 a1_1) := (blk_cell BK113.out 1).trans rfl
    have hfz17_0 := blk_frozen BK113.out 0
    have hfz17_1 := blk_frozen BK113.out 1
    go_wp2_with (first | ((with_reducible refine gC 147 ?_); refine gL (some 16) Tryz.func147 #[.agg #[.int .i64 a1_0, .int .i64 a1_1]] ?_; (with_reducible refine (hex_Bytes.calls k1 a1_0 a1_1 t118 _ A13.out).mono ?_); rintro e w18 ⟨v119, rfl, ho0, hb⟩; refine ⟨_, rfl, ?_⟩; have HO120 := nK ho0 HO_8; replace HO_8 := eK HO_8 ho0 hb; replace BK112 := kK BK112 hb; replace BK113 := kK BK113 hb; replace HB := sB hb; clear hb ho0; obtain ⟨Ao19, co19, eo19⟩ := Kd.R_slice HO120.out; subst eo19; have p121 : 0 ≤ (x10_1 : Int) := of_decide_eq_true hQ; have q121 : x10_1 < (t118.length : Int) := of_decide_eq_true hQ; obtain ⟨ad121, e121, hx121_0⟩ := Kd.at_int (Kd.R_reads' HO120.out).2.2 x10_1 p121 q121; cases e121; replace p121 := eq_true p121; replace q121 := eq_true q121))
    go_ret
    exact ⟨eQ, bQ⟩
   have H' := aM H
   clear H
   have p117 : 0 ≤ (x10_1 : Int) := of_decide_eq_true hQ
   have q117 : x10_1 < (t114.length : Int) := of_decide_eq_true hQ
   obtain ⟨ad117, e117, hx117_0⟩ := Kd.at_int (Kd.R_reads' HO_8.out).2.2 x10_1 p117 q117
   cases e117
   replace p117 := eq_true p117
   replace q117 := eq_true q117
   have hnb20 := NB113_112.out
   have hnc20 := NB112_113.out
   have hcz21_0 : wr.cell? ⟨gb113, 0, none⟩ = some (.int .i64 a1_0) := (blk_cell BK113.out 0).trans rfl
   have hcz21_1 : wr.cell? ⟨gb113, 1, none⟩ = some (.int .i64 a1_1) := (blk_cell BK113.out 1).trans rfl
   have hfz21_0 := blk_frozen BK113.out 0
   have hfz21_1 := blk_frozen BK113.out 1
   go_wp2_with (first | ((with_reducible refine gC 147 ?_); refine gL (some 16) Tryz.func147 #[.agg #[.int .i64 a1_0, .int .i64 a1_1]] ?_; (with_reducible refine (hex_Bytes.calls k1 a1_0 a1_1 t118 _ A13.out).mono ?_); rintro e w22 ⟨v119, rfl, ho0, hb⟩; refine ⟨_, rfl, ?_⟩; have HO120 := nK ho0 HO_8; replace HO_8 := eK HO_8 ho0 hb; replace BK112 := kK BK112 hb; replace BK113 := kK BK113 hb; replace HB := sB hb; clear hb ho0; obtain ⟨Ao23, co23, eo23⟩ := Kd.R_slice HO120.out; subst eo23; have p121 : 0 ≤ (x10_1 : Int) := of_decide_eq_true hQ; have q121 : x10_1 < (t118.length : Int) := of_decide_eq_true hQ; obtain ⟨ad121, e121, hx121_0⟩ := Kd.at_int (Kd.R_reads' HO120.out).2.2 x10_1 p121 q121; cases e121; replace p121 := eq_true p121; replace q121 := eq_true q121))
   go_roundg k1
   case measure => have := HK1.out; omega
   case rel => exact ⟨(wrap64 (x10_1 + 1)), vQ, H', ⟨by have := HK1.out; omega⟩, ⟨by (with_reducible repeat first|apply rA|apply rD|apply r1); exact Kd.R_mono HO_8.out (fun _ hk => trivial)⟩, ⟨kQ⟩, ⟨kQ⟩, ⟨bQ⟩⟩
def syn_turned.f (a0_0 : Int) (a0_1 : Int) (a1_0 : Int) (a1_1 : Int) : Option (Bool) := some (decide (a1_1 < a0_1))
set_option maxHeartbeats 8000000 in
set_option maxRecDepth 100000 in
theorem syn_turned.calls (a0_0 : Int) (a0_1 : Int) (a1_0 : Int) (a1_1 : Int) (r : Bool) (w : World) (h : syn_turned.f a0_0 a0_1 a1_0 a1_1 = some r) :
  Calls Tryz.prog 124 #[.agg #[.int .i64 a0_0, .int .i64 a0_1], .agg #[.int .i64 a1_0, .int .i64 a1_1]] w fun e w' => e = .returned (.bool r) ∧ Below w.heap.size w w' := by
 have hu46 := Tryz.underlying46
 have HB := aM (Below.refl w.heap.size w)
 have H : (some (decide (a1_1 < a0_1))) = some r := h
 clear h
 obtain rfl := Option.some.inj H
 go_enter Tryz.func124, Tryz.ntmps124
 go_wp2_with (first | ((with_reducible refine gD 2 ?_); refine bE 2 (cs := #[.int .i64 a0_0, .int .i64 a0_1]) (t := 46) ?_; intro gb122 hg w3 hbox hb; have BK122 := aM hbox; have GW122 := sG w hg; have GE122 := sG w hg; replace HB := sB hb; clear hb hbox hg) | ((with_reducible refine gD 3 ?_); refine bE 3 (cs := #[.int .i64 a1_0, .int .i64 a1_1]) (t := 46) ?_; intro gb123 hg w4 hbox hb; have BK123 := aM hbox; have GW123 := sG w hg; have GE123 := sG w hg; replace HB := sB hb; have NB122_123 := aM ((by rw [hg]; exact Nat.ne_of_lt (blk_lt (g := gb122) (o := .cells #[.int .i64 a0_0, .int .i64 a0_1] 46 (0, 0)) kQ) : gb122 ≠ gb123)); have NB123_122 := aM ((by rw [hg]; exact Nat.ne_of_gt (blk_lt (g := gb122) (o := .cells #[.int .i64 a0_0, .int .i64 a0_1] 46 (0, 0)) kQ) : gb123 ≠ gb122)); replace BK122 := kK BK122 hb; clear hb hbox hg; have hnb5 := NB123_122.out; have hnc5 := NB122_123.out; have hcz6_0 : w4.cell? ⟨gb123, 0, none⟩ = some (.int .i64 a1_0) := (blk_cell BK123.out 0).trans rfl; have hcz6_1 : w4.cell? ⟨gb123, 1, none⟩ = some (.int .i64 a1_1) := (blk_cell BK123.out 1).trans rfl; have hfz6_0 := blk_frozen BK123.out 0; have hfz6_1 := blk_frozen BK123.out 1; have hcz7_0 : w4.cell? ⟨gb122, 0, none⟩ = some (.int .i64 a0_0) := (blk_cell BK122.out 0).trans rfl; have hcz7_1 : w4.cell? ⟨gb122, 1, none⟩ = some (.int .i64 a0_1) := (blk_cell BK122.out 1).trans rfl; have hfz7_0 := blk_frozen BK122.out 0; have hfz7_1 := blk_frozen BK122.out 1))
 go_ret
 exact ⟨eQ, bQ⟩
end Go.Proofs.YtjplnhdplpiogaaGreatDoor.M
end
section
namespace Go.Proofs.YtjplnhdplpiogaaGreatDoor.M
open Go.RowKit Go.Proofs.YtjplnhdplpiogaaGreatDoorW.PrintWords Go.Proofs.YtjplnhdplpiogaaGreatDoorW.PrintLast Go.Proofs.YtjplnhdplpiogaaGreatDoorW.PrintMore
set_option linter.unusedVariables false
set_option linter.unusedSimpArgs false
set_option maxRecDepth 100000
set_option maxHeartbeats 8000000
/-- Bytes as units, and whether one is left over. -/
def pairsB : List Int → List Int × Bool
 | a :: b :: l => (Go.bits .or .i64 (wrap64 (wrap64 a * 256)) (wrap64 b) :: (pairsB l).1, (pairsB l).2)
 | [_] => ([], true)
 | [] => ([], false)
def unitsB (s : ByteArray) : List Int × Bool := pairsB (bytesOf s)
theorem pairs_loop : ∀ (d : Nat) (xs acc : List Int), xs.length ≤ d → xs.length ≤ 1000000 → acc.length + xs.length ≤ 1000000 → utf_Units.l0 (d + 1) xs acc = some (acc ++ (pairsB xs).1, (pairsB xs).2)
 | d, [], acc, hd, h1, h2 => by
  rw [utf_Units.l0, if_neg (by simp)]
  simp [pairsB]
 | d, [a], acc, hd, h1, h2 => by
  rw [utf_Units.l0, if_neg (by simp)]
  simp [pairsB]
 | 0, a :: b :: l, acc, hd, h1, h2 => by simp at hd
 | d + 1, a :: b :: l, acc, hd, h1, h2 => by
  simp only [List.length_cons] at hd h1 h2
  rw [utf_Units.l0, if_pos (by simp only [List.length_cons]; omega), if_pos (by simp only [List.length_cons]; omega), if_pos (by simp only [List.length_cons]; omega), if_pos (by omega), if_pos (by simp only [List.length_cons]; omega)]
  rw [show (a :: b :: l).drop 2 = l from rfl, show rd (a :: b :: l) 0 = a from rfl, show rd (a :: b :: l) 1 = b from rfl, pairs_loop d l _ (by omega) (by omega) (by simp only [List.length_append, List.length_cons, List.length_nil]; omega)]
  simp [pairsB]
theorem units_eq (s : ByteArray) (h : s.size ≤ 1000000) : utf_Units.f (s.size + 1) (bytesOf s) = some (unitsB s) := by
 have hl := bytesOf_length s
 unfold utf_Units.f unitsB
 rw [pairs_loop s.size (bytesOf s) [] (by omega) (by omega) (by simp; omega)]
 rfl
def unitsF (L : List S40) (e i : Int) : Ex (List Int × Int) :=
 bX (takeF L e i 4) fun t => if t.f3.size ≤ 1000000 then (if (unitsB t.f3).2 = true ∨ (unitsB t.f3).1.length = 0 ∨ (unitsB t.f3).1.length > 64 then some (.error (t.f1, 3)) else some (.ok ((unitsB t.f3).1, t.f1))) else none
section
variable {w0 w : World} {g : Nat} {A : Option Addr} {c : Nat} {L : List S40} {i e : Int} {ov iv : Value}
theorem units_calls (hC : Kd.C k40 w0 A L.length L) (hS : St w0 w g A c L i e ov iv) (h0 : 0 ≤ i) (r : Except (Int × Int) (List Int × Int)) (h : unitsF L e i = some r) :
  Calls Tryz.prog 127 #[.pointer (some ⟨g, 0, none⟩)] w (Out w0 w g A c L e ov iv (fun w' t v => ∃ vu, v = .tuple #[vu, .int .i64 t.2] ∧ (Kd.int .i64).R 3 w' w.heap.size (fun k => w.heap.size ≤ k) vu t.1) (fun _ => i + 1) r) := by
 have hu40 := Tryz.underlying40
 unfold unitsF at h
 obtain ⟨p, ht, rfl⟩ | ⟨t, ht, h⟩ := bX_ok h
 ·have HS := aM hS
  clear hS
  go_enter Tryz.func127, Tryz.ntmps127
  go_wp2_with (first | (go_at_call 148; refine (take_calls hC HS.out h0 4 _ ht).mono ?_; rintro x w2 ⟨rfl, hk2, hbe⟩))
  exact ⟨rfl, rfl, hk2, hbe⟩
 obtain ⟨hn, hk, rfl⟩ := take_in ht
 split at h
 rotate_left
 ·cases h
 rename_i hs
 have hU := aM (units_eq _ hs)
 obtain ⟨u, hu⟩ : ∃ u, unitsB (rd_T40 L i).f3 = u := ⟨_, rfl⟩
 obtain ⟨ul, uo⟩ := u
 rw [hu] at h hU
 have HS := aM hS
 have HK := aM (KeepBut.refl w g none)
 have HH := aM h
 clear hS h
 go_enter Tryz.func127, Tryz.ntmps127
 go_wp2_with (first | (go_at_call 148; refine (take_ok hC HS.out h0 hn 4 hk.symm).mono ?_; rintro x w2 ⟨rfl, hs2, hk2⟩; replace HS := aM hs2; replace HK := aM (KeepBut.trans HK.out hk2 (.inl rfl)); have hcv := Lib.run_convert_string_bytes (P := Tryz.prog) (w2.alloc (.cells #[.int .i64 (rd_T40 L i).f0, .int .i64 (rd_T40 L i).f1, .int .i64 (rd_T40 L i).f2, .string (rd_T40 L i).f3] 40)) 9 52 5 (rd_T40 L i).f3 (u := .string) Tryz.underlying9 Tryz.underlying52 Tryz.underlying5; clear hs2 hk2 hk))
 have hsz : (w2.alloc (.cells #[.int .i64 (rd_T40 L i).f0, .int .i64 (rd_T40 L i).f1, .int .i64 (rd_T40 L i).f2, .string (rd_T40 L i).f3] 40)).heap.size = w2.heap.size + 1 := Array.size_push ..
 have hnw : (w2.alloc (.cells #[.int .i64 (rd_T40 L i).f0, .int .i64 (rd_T40 L i).f1, .int .i64 (rd_T40 L i).f2, .string (rd_T40 L i).f3] 40)).heap[w2.heap.size]? = some (.cells (tok4 (rd_T40 L i)) 40 (0, 0)) := blk_new _ _
 have hV0 : Below w2.heap.size w2 (w2.alloc (.cells #[.int .i64 (rd_T40 L i).f0, .int .i64 (rd_T40 L i).f1, .int .i64 (rd_T40 L i).f2, .string (rd_T40 L i).f3] 40)) := below_alloc (Below.refl _ _) _
 generalize w2.alloc (.cells #[.int .i64 (rd_T40 L i).f0, .int .i64 (rd_T40 L i).f1, .int .i64 (rd_T40 L i).f2, .string (rd_T40 L i).f3] 40) = V at hsz hnw hV0 hcv ⊢
 have hrd : Kd.C (Kd.int .u8) (Lib.bytesWorld V 5 (rd_T40 L i).f3) (some ⟨w2.heap.size + 1, 0, none⟩) (bytesOf (rd_T40 L i).f3).length (bytesOf (rd_T40 L i).f3) := by
  rw [bytesOf_length, ← hsz]
  exact Kd.C_of_reads (h1 := fun _ => rfl) (bytes_reads V 5 (rd_T40 L i).f3 (by omega))
 have hx := utf_Units.calls _ _ (some ⟨w2.heap.size + 1, 0, none⟩) (grownCap V (rd_T40 L i).f3.size 0 5) (bytesOf (rd_T40 L i).f3) ul uo _ (Kd.V_mk (by rw [bytesOf_length]; exact grownCap_ge _ _ _ _) (Kd.C_F (Kd.heap_int .u8) hrd)) hU.out
 rw [bytesOf_length] at hx
 refine hx.mono ?_
 rintro x w3 ⟨vu, rfl, hr, hb⟩
 have hb1 : Below V.heap.size V w3 := below_step (bytes_below (Below.refl _ _) (Nat.le_refl _) 5 _) hb
 have hb2 : Below w2.heap.size w2 w3 := below_step hV0 hb1
 have BT := aM (blk_below hnw hb1)
 have HS3 := aM (HS.out.of_below hb2)
 have hV1 : w.heap.size ≤ (Lib.bytesWorld V 5 (rd_T40 L i).f3).heap.size := Nat.le_trans (Nat.le_trans HK.out.1 hV0.size) (below_size (bytes_below (Below.refl _ _) (Nat.le_refl _) 5 _))
 replace HK := aM (KeepBut.trans HK.out (KeepBut.of_below hb2 g none) (.inl rfl))
 have HR := aM (Kd.R_mono (Kd.R_lower hr hV1) (fun k hk => Nat.le_trans hV1 hk))
 clear hx hb hrd hcv hnw hsz hV0 hb1 hb2 hr hV1 HS
 obtain ⟨tk0, tk1, tk2, tk3, tm0, tm1, tm2, tm3⟩ := b4 BT
 obtain ⟨Au, cu, hvu⟩ := Kd.R_slice HR.out
 subst hvu
 cases uo with
 | true =>
  rw [if_pos (.inl rfl)] at HH
  obtain rfl := Option.some.inj HH.out
  go_wp2_with (first | (go_at_call 33; (with_reducible refine (fail_calls _ _ _).mono ?_); rintro x wf ⟨rfl, hbf⟩))
  exact ⟨rfl, rfl, KeepBut.trans HK.out (KeepBut.of_below hbf g none) (.inl rfl), below_step HS3.out.below hbf⟩
 | false =>
  by_cases h1 : ul.length = 0
  ·rw [if_pos (.inr (.inl h1))] at HH
   obtain rfl := Option.some.inj HH.out
   have d1 : ((ul.length : Int) == 0) = true := beq_iff_eq.mpr (by omega)
   clear h1 HH
   go_wp2_with (first | (go_at_call 33; (with_reducible refine (fail_calls _ _ _).mono ?_); rintro x wf ⟨rfl, hbf⟩))
   exact ⟨rfl, rfl, KeepBut.trans HK.out (KeepBut.of_below hbf g none) (.inl rfl), below_step HS3.out.below hbf⟩
  ·have d1 : ((ul.length : Int) == 0) = false := beq_eq_false_iff_ne.mpr (by omega)
   by_cases h2 : ul.length > 64
   ·rw [if_pos (.inr (.inr h2))] at HH
    obtain rfl := Option.some.inj HH.out
    have d2 : decide ((64 : Int) < (ul.length : Int)) = true := decide_eq_true (by omega)
    clear h1 h2 HH
    go_wp2_with (first | (go_at_call 33; (with_reducible refine (fail_calls _ _ _).mono ?_); rintro x wf ⟨rfl, hbf⟩))
    exact ⟨rfl, rfl, KeepBut.trans HK.out (KeepBut.of_below hbf g none) (.inl rfl), below_step HS3.out.below hbf⟩
   ·rw [if_neg (by simp only [Bool.false_eq_true, false_or, not_or]; exact ⟨h1, h2⟩)] at HH
    obtain rfl := Option.some.inj HH.out
    have d2 : decide ((64 : Int) < (ul.length : Int)) = false := decide_eq_false (by omega)
    clear h1 h2 HH
    go_wp2_with (fail)
    go_quiet (fail)
    try go_wp2_with (fail)
    go_ret2
    exact ⟨_, rfl, ⟨_, rfl, Kd.R_drewN HR.out _⟩, HS3.out.drewN _, KeepBut.trans HK.out (KeepBut.of_below (pw_below_drewN (Below.refl _ _) _) g none) (.inl rfl)⟩
end
end Go.Proofs.YtjplnhdplpiogaaGreatDoor.M
end
section
namespace Go.Proofs.YtjplnhdplpiogaaGreatDoor.M
open Go.RowKit Go.Proofs.YtjplnhdplpiogaaGreatDoorW.PrintWords
set_option linter.unusedVariables false
theorem le_rounds {α : Type} {g : Nat → Option α} (hm : ∀ k, LeO (g k) (g (k + 1))) {k : Nat} {r : α} (h : g k = some r) : ∀ {m : Nat}, k ≤ m → g m = some r := by
 intro m hk
 induction m with
 | zero =>
  obtain rfl : k = 0 := by omega
  exact h
 | succ m ih =>
  by_cases e : k = m + 1
  ·subst e; exact h
  ·exact hm m r (ih (by omega))
theorem ba_eta (a : ByteArray) : a = ⟨a.data.toList.toArray⟩ := by cases a; rfl
theorem toList_data (a : ByteArray) : a.toList = a.data.toList := ByteArray.toList_eq a
theorem ext_from (a : ByteArray) (i : Nat) : a.extract i a.size = ⟨(a.data.toList.drop i).toArray⟩ := by
 rw [ba_eta (a.extract i a.size), Lib.extract_to_end]
theorem bt_get (a : ByteArray) (i : Nat) (h : i < a.size) : bt a (i : Int) = (a.data.toList[i]'(by simpa using h)).toNat := by
 unfold bt
 simp only [Int.toNat_natCast, h, dif_pos]
 rfl
theorem ba_list (l : List UInt8) : (⟨l.toArray⟩ : ByteArray).data.toList = l := by simp
theorem ba_toList (l : List UInt8) : (⟨l.toArray⟩ : ByteArray).toList = l := by rw [toList_data, ba_list]
theorem size_list (s : ByteArray) : s.size = s.data.toList.length := rfl
theorem ext_mid (s : ByteArray) (i j : Nat) : s.extract i j = ⟨((s.data.toList.drop i).take (j - i)).toArray⟩ := by
 rw [ba_eta (s.extract i j), Lib.extract_data]
theorem wrap_small {x : Int} (h0 : 0 ≤ x) (h1 : x < 9223372036854775808) : wrap64 x = x := by unfold wrap64; omega
end Go.Proofs.YtjplnhdplpiogaaGreatDoor.M
end
section
namespace Go.Proofs.YtjplnhdplpiogaaGreatDoor.M
open Go.RowKit Go.Proofs.YtjplnhdplpiogaaGreatDoorW.PrintWords Go.Proofs.YtjplnhdplpiogaaGreatDoorW.PrintLast Go.Proofs.YtjplnhdplpiogaaGreatDoorW.PrintMore
set_option linter.unusedVariables false
set_option linter.unusedSimpArgs false
set_option maxRecDepth 100000
set_option maxHeartbeats 8000000
theorem or_shift {x y : Int} (h0 : 0 ≤ x) (h1 : x < 1099511627776) (h2 : 0 ≤ y) (h3 : y < 256) : Go.bits .or .i64 (x * 256) y = x * 256 + y := by
 obtain ⟨a, rfl⟩ := Int.eq_ofNat_of_zero_le h0
 obtain ⟨b, rfl⟩ := Int.eq_ofNat_of_zero_le h2
 have e1 : (BitVec.ofInt 64 ((a : Int) * 256)).toNat = a * 256 := by
  rw [show ((a : Int) * 256) = ((a * 256 : Nat) : Int) by omega, BitVec.ofInt_natCast, BitVec.toNat_ofNat, Nat.mod_eq_of_lt]; omega
 have e2 : (BitVec.ofInt 64 (b : Int)).toNat = b := by
  rw [BitVec.ofInt_natCast, BitVec.toNat_ofNat, Nat.mod_eq_of_lt]; omega
 have e3 : (BitVec.ofInt 64 ((a : Int) * 256) ||| BitVec.ofInt 64 (b : Int)).toNat = a * 256 + b := by
  rw [BitVec.toNat_or, e1, e2, show a * 256 = a <<< 8 by rw [Nat.shiftLeft_eq], Nat.shiftLeft_add_eq_or_of_lt (by omega)]
 have e4 : Go.bits .or .i64 ((a : Int) * 256) (b : Int) = IntKind.i64.wrap ((a * 256 + b : Nat) : Int) := by
  show IntKind.i64.wrap _ = _
  exact congrArg (fun n : Nat => IntKind.i64.wrap (n : Int)) e3
 rw [e4, IntKind.wrap_i64]
 omega
def accB (v b : Int) : Int := Go.bits .or .i64 (wrap64 (v * 256)) (wrap64 b)
theorem acc_eq {v b : Int} (h0 : 0 ≤ v) (h1 : v < 1099511627776) (h2 : 0 ≤ b) (h3 : b < 256) : accB v b = v * 256 + b := by
 unfold accB
 rw [wrap_small (by omega) (by omega), wrap_small (x := b) (by omega) (by omega), or_shift h0 h1 h2 h3]
theorem bytesOf_range (s : ByteArray) : ∀ b ∈ bytesOf s, 0 ≤ b ∧ b < 256 := by
 intro b hb
 unfold bytesOf at hb
 obtain ⟨u, _, rfl⟩ := List.mem_map.mp hb
 have := UInt8.toNat_lt u
 constructor
 ·exact Int.natCast_nonneg _
 ·exact Int.ofNat_lt.2 this
/-- The value of up to four bytes. -/
def numB : List Int → Int
 | [a] => a
 | [a, b] => a * 256 + b
 | [a, b, c] => (a * 256 + b) * 256 + c
 | [a, b, c, d] => ((a * 256 + b) * 256 + c) * 256 + d
 | _ => 0
theorem fold_num (l : List Int) (hl : l.length ≤ 4) (h : ∀ b ∈ l, 0 ≤ b ∧ b < 256) : l.foldl accB 0 = numB l := by
 match l, hl, h with
 | [], _, _ => rfl
 | [a], _, h =>
  have ha := h a (by simp)
  rw [List.foldl_cons, acc_eq (by omega) (by omega) ha.1 ha.2, List.foldl_nil]
  show _ = a
  omega
 | [a, b], _, h =>
  have ha := h a (by simp)
  have hb := h b (by simp)
  rw [List.foldl_cons, acc_eq (by omega) (by omega) ha.1 ha.2, List.foldl_cons, acc_eq (by omega) (by omega) hb.1 hb.2, List.foldl_nil]
  show _ = a * 256 + b
  omega
 | [a, b, c], _, h =>
  have ha := h a (by simp)
  have hb := h b (by simp)
  have hc := h c (by simp)
  rw [List.foldl_cons, acc_eq (by omega) (by omega) ha.1 ha.2, List.foldl_cons, acc_eq (by omega) (by omega) hb.1 hb.2, List.foldl_cons, acc_eq (by omega) (by omega) hc.1 hc.2, List.foldl_nil]
  show _ = (a * 256 + b) * 256 + c
  omega
 | [a, b, c, d], _, h =>
  have ha := h a (by simp)
  have hb := h b (by simp)
  have hc := h c (by simp)
  have hd := h d (by simp)
  rw [List.foldl_cons, acc_eq (by omega) (by omega) ha.1 ha.2, List.foldl_cons, acc_eq (by omega) (by omega) hb.1 hb.2, List.foldl_cons, acc_eq (by omega) (by omega) hc.1 hc.2, List.foldl_cons, acc_eq (by omega) (by omega) hd.1 hd.2, List.foldl_nil]
  show _ = ((a * 256 + b) * 256 + c) * 256 + d
  omega
 | _ :: _ :: _ :: _ :: _ :: _, hl, _ => exact absurd hl (by simp)
/-- A code may be. -/
def saneC (N V : Int) : Prop := 0 ≤ V ∧ (N = 1 ∧ V < 256 ∨ N = 2 ∧ V < 65536 ∨ N = 3 ∧ V < 16777216 ∨ N = 4 ∧ V < 4294967296)
theorem valF_num (s : ByteArray) (h : (valF s).2.2 = true) : (valF s).1 = s.size ∧ (valF s).2.1 = numB (bytesOf s) ∧ 1 ≤ s.size ∧ s.size ≤ 4 := by
 unfold valF at h ⊢
 split at h
 ·rename_i hc
  rw [if_pos hc]
  have hl := bytesOf_length s
  exact ⟨rfl, fold_num _ (by omega) (bytesOf_range s), hc.1, hc.2⟩
 ·cases h
theorem num_range (l : List Int) (h1 : 1 ≤ l.length) (h4 : l.length ≤ 4) (h : ∀ b ∈ l, 0 ≤ b ∧ b < 256) : saneC l.length (numB l) := by
 unfold saneC
 match l, h1, h4, h with
 | [a], _, _, h =>
  have ha := h a (by simp)
  simp only [numB, List.length_cons, List.length_nil]
  omega
 | [a, b], _, _, h =>
  have ha := h a (by simp)
  have hb := h b (by simp)
  simp only [numB, List.length_cons, List.length_nil]
  omega
 | [a, b, c], _, _, h =>
  have ha := h a (by simp)
  have hb := h b (by simp)
  have hc := h c (by simp)
  simp only [numB, List.length_cons, List.length_nil]
  omega
 | [a, b, c, d], _, _, h =>
  have ha := h a (by simp)
  have hb := h b (by simp)
  have hc := h c (by simp)
  have hd := h d (by simp)
  simp only [numB, List.length_cons, List.length_nil]
  omega
 | _ :: _ :: _ :: _ :: _ :: _, _, h4, _ => exact absurd h4 (by simp)
theorem valF_sane (s : ByteArray) (h : (valF s).2.2 = true) : saneC (valF s).1 (valF s).2.1 := by
 obtain ⟨h1, h2, h3, h4⟩ := valF_num s h
 have hl := bytesOf_length s
 rw [h1, h2, ← hl]
 exact num_range _ (by omega) (by omega) (bytesOf_range s)
/-- A code's bytes. -/
def bytesC (N V : Int) : List Int := if N = 1 then [V % 256] else if N = 2 then [V / 256 % 256, V % 256] else if N = 3 then [V / 65536 % 256, V / 256 % 256, V % 256] else [V / 16777216 % 256, V / 65536 % 256, V / 256 % 256, V % 256]
theorem u_wrap (j : Nat) (hj : j ≤ 4) (n : Int) (hn : n = 8 * j) : IntKind.u64.wrap (wrap64 n) = n := by
 subst hn
 have : j = 0 ∨ j = 1 ∨ j = 2 ∨ j = 3 ∨ j = 4 := by omega
 rcases this with rfl | rfl | rfl | rfl | rfl <;> decide +kernel
theorem shr_at (V : Int) (j : Nat) (hj : j ≤ 4) (n : Int) (hn : n = 8 * j) : shr .i64 V (IntKind.u64.wrap (wrap64 n)) = V / 256 ^ j := by
 rw [u_wrap j hj n hn]
 subst hn
 have : j = 0 ∨ j = 1 ∨ j = 2 ∨ j = 3 ∨ j = 4 := by omega
 rcases this with rfl | rfl | rfl | rfl | rfl <;> rfl
theorem sane_eq (N V : Int) (h : saneC N V) : hex_Sane.f N V = some true := by
 obtain ⟨h0, hc⟩ := h
 unfold hex_Sane.f
 have h8 : 0 ≤ IntKind.u64.wrap (wrap64 (8 * N)) := by rcases hc with ⟨rfl, _⟩ | ⟨rfl, _⟩ | ⟨rfl, _⟩ | ⟨rfl, _⟩ <;> decide +kernel
 rw [if_pos (by omega), if_pos (by omega), if_pos (by omega), if_pos h8]
 have hz : shr .i64 V (IntKind.u64.wrap (wrap64 (8 * N))) = 0 := by
  rcases hc with ⟨rfl, h⟩ | ⟨rfl, h⟩ | ⟨rfl, h⟩ | ⟨rfl, h⟩
  ·rw [shr_at V 1 (by decide) (8 * 1) rfl, show ((256 : Int) ^ 1) = 256 from rfl]; omega
  ·rw [shr_at V 2 (by decide) (8 * 2) rfl, show ((256 : Int) ^ 2) = 65536 from rfl]; omega
  ·rw [shr_at V 3 (by decide) (8 * 3) rfl, show ((256 : Int) ^ 3) = 16777216 from rfl]; omega
  ·rw [shr_at V 4 (by decide) (8 * 4) rfl, show ((256 : Int) ^ 4) = 4294967296 from rfl]; omega
 rw [hz]
 rfl
theorem bytes_step (k : Nat) (acc : List Int) (ha : acc.length ≤ 10) (j : Nat) (hj : j ≤ 3) (N V : Int) : hex_Bytes.l0 (k + 1) acc (j : Int) N V = hex_Bytes.l0 k (acc ++ [V / 256 ^ j % 256]) ((j : Int) - 1) N V := by
 have hw : wrap64 (8 * (j : Int)) = 8 * j := by unfold wrap64; omega
 have hu : 0 ≤ IntKind.u64.wrap (wrap64 (8 * (j : Int))) := by
  have : j = 0 ∨ j = 1 ∨ j = 2 ∨ j = 3 := by omega
  rcases this with rfl | rfl | rfl | rfl <;> decide +kernel
 rw [hex_Bytes.l0, if_pos (by omega), if_pos hu, if_pos (by omega), shr_at V j (by omega) _ rfl, show wrap64 ((j : Int) - 1) = (j : Int) - 1 by unfold wrap64; omega]
theorem bytes_end (k : Nat) (acc : List Int) (N V : Int) : hex_Bytes.l0 (k + 1) acc (((0 : Nat) : Int) - 1) N V = some acc := by
 rw [hex_Bytes.l0, if_neg (by omega)]
theorem bytes_eq (N V : Int) (h : saneC N V) {k : Nat} (hk : 6 ≤ k) : hex_Bytes.f k N V = some (bytesC N V) := by
 obtain ⟨k, rfl⟩ : ∃ m, k = m + 6 := ⟨k - 6, by omega⟩
 unfold hex_Bytes.f
 rw [sane_eq N V h, Option.bind_some, if_pos rfl]
 obtain ⟨h0, hc⟩ := h
 rcases hc with ⟨rfl, h⟩ | ⟨rfl, h⟩ | ⟨rfl, h⟩ | ⟨rfl, h⟩
 ·rw [show wrap64 (1 - 1) = ((0 : Nat) : Int) by decide +kernel, bytes_step _ _ (by simp) 0 (by decide), bytes_end, show ((256 : Int) ^ 0) = 1 from rfl, Int.ediv_one]
  rfl
 ·rw [show wrap64 (2 - 1) = ((1 : Nat) : Int) by decide +kernel, bytes_step _ _ (by simp) 1 (by decide), show ((1 : Nat) : Int) - 1 = ((0 : Nat) : Int) from rfl, bytes_step _ _ (by simp) 0 (by decide), bytes_end, show ((256 : Int) ^ 0) = 1 from rfl, Int.ediv_one]
  rfl
 ·rw [show wrap64 (3 - 1) = ((2 : Nat) : Int) by decide +kernel, bytes_step _ _ (by simp) 2 (by decide), show ((2 : Nat) : Int) - 1 = ((1 : Nat) : Int) from rfl, bytes_step _ _ (by simp) 1 (by decide), show ((1 : Nat) : Int) - 1 = ((0 : Nat) : Int) from rfl, bytes_step _ _ (by simp) 0 (by decide), bytes_end, show ((256 : Int) ^ 0) = 1 from rfl, Int.ediv_one]
  rfl
 ·rw [show wrap64 (4 - 1) = ((3 : Nat) : Int) by decide +kernel, bytes_step _ _ (by simp) 3 (by decide), show ((3 : Nat) : Int) - 1 = ((2 : Nat) : Int) from rfl, bytes_step _ _ (by simp) 2 (by decide), show ((2 : Nat) : Int) - 1 = ((1 : Nat) : Int) from rfl, bytes_step _ _ (by simp) 1 (by decide), show ((1 : Nat) : Int) - 1 = ((0 : Nat) : Int) from rfl, bytes_step _ _ (by simp) 0 (by decide), bytes_end, show ((256 : Int) ^ 0) = 1 from rfl, Int.ediv_one]
  rfl
theorem bytesC_length (N V : Int) (h : saneC N V) : ((bytesC N V).length : Int) = N := by
 obtain ⟨h0, hc⟩ := h
 rcases hc with ⟨rfl, h⟩ | ⟨rfl, h⟩ | ⟨rfl, h⟩ | ⟨rfl, h⟩ <;> rfl
/-- Is a byte of the second below the first one's? -/
def anyBelow : List Int → List Int → Bool
 | a :: l, b :: m => decide (b < a) || anyBelow l m
 | _, _ => false
theorem outside_loop (x y : List Int) (N V : Int) (hs : saneC N V) (hy : bytesC N V = y) (hl : x.length = y.length) (h4 : x.length ≤ 4) : ∀ (d i : Nat) (k : Nat), i + d = x.length → d + 7 ≤ k → syn_outside.l0 k x (x.length : Int) (i : Int) N V = some (anyBelow (x.drop i) (y.drop i))
 | 0, i, k, hd, hk => by
  obtain ⟨k, rfl⟩ : ∃ m, k = m + 1 := ⟨k - 1, by omega⟩
  rw [syn_outside.l0, if_neg (by omega), List.drop_eq_nil_of_le (by omega)]
  rfl
 | d + 1, i, k, hd, hk => by
  obtain ⟨k, rfl⟩ : ∃ m, k = m + 1 := ⟨k - 1, by omega⟩
  have hi : i < x.length := by omega
  have hi' : i < y.length := by omega
  have hx : rd x (i : Int) = x[i] := by simp [rd, List.getD, hi]
  have hy' : rd y (i : Int) = y[i] := by simp [rd, List.getD, hi']
  rw [syn_outside.l0, if_pos (by omega), if_pos (by omega), if_pos (by omega), bytes_eq N V hs (by omega), Option.bind_some, hy, if_pos (by omega), hx, hy', wrap_small (by omega) (by omega), show ((i : Int) + 1) = ((i + 1 : Nat) : Int) by omega, outside_loop x y N V hs hy hl h4 d (i + 1) k (by omega) (by omega), List.drop_eq_getElem_cons hi, List.drop_eq_getElem_cons hi']
  rw [show anyBelow (x[i] :: x.drop (i + 1)) (y[i] :: y.drop (i + 1)) = (decide (y[i] < x[i]) || anyBelow (x.drop (i + 1)) (y.drop (i + 1))) from rfl]
  by_cases hlt : y[i] < x[i]
  ·rw [if_pos hlt, decide_eq_true hlt]
   rfl
  ·rw [if_neg hlt, decide_eq_false hlt]
   rfl
def outsideB (lo hi : S46) : Bool := anyBelow (bytesC lo.f0 lo.f1) (bytesC hi.f0 hi.f1)
def turnedB (lo hi : S46) : Bool := decide (hi.f1 < lo.f1)
theorem outside_eq (lo hi : S46) (h1 : saneC lo.f0 lo.f1) (h2 : saneC hi.f0 hi.f1) (hn : hi.f0 = lo.f0) : syn_outside.f 20 lo.f0 lo.f1 hi.f0 hi.f1 = some (outsideB lo hi) := by
 unfold syn_outside.f outsideB
 have e1 := bytesC_length _ _ h1
 have e2 := bytesC_length _ _ h2
 have e4 : lo.f0 ≤ 4 := by obtain ⟨_, hc⟩ := h1; omega
 rw [bytes_eq _ _ h1 (by decide), Option.bind_some]
 exact outside_loop (bytesC lo.f0 lo.f1) (bytesC hi.f0 hi.f1) _ _ h2 rfl (by omega) (by omega) _ 0 20 (by simp; rfl) (by omega)
end Go.Proofs.YtjplnhdplpiogaaGreatDoor.M
end
section
namespace Go.Proofs.YtjplnhdplpiogaaGreatDoor.M
open Go.RowKit Go.Proofs.YtjplnhdplpiogaaGreatDoorW.PrintWords Go.Proofs.YtjplnhdplpiogaaGreatDoorW.PrintLast Go.Proofs.YtjplnhdplpiogaaGreatDoorW.PrintMore
set_option linter.unusedVariables false
set_option linter.unusedSimpArgs false
set_option maxRecDepth 100000
set_option maxHeartbeats 8000000
def charF (L : List S40) (e i : Int) : Ex S50 := bX (codeF L e i 0) fun lo => some (.ok ⟨lo.1, lo.1, 0, [], []⟩)
def spaceF (L : List S40) (e i : Int) : Ex S50 := pairF L e i outsideB
def toCharF (L : List S40) (e i : Int) : Ex S50 := bX (charF L e i) fun x => bX (toF L e (i + 1) 0) fun u => some (.ok ⟨x.f0, x.f1, u, [], []⟩)
def notRangeF (L : List S40) (e i : Int) : Ex S50 := bX (pairF L e i turnedB) fun x => bX (toF L e (i + 2) 0) fun u => some (.ok ⟨x.f0, x.f1, u, [], []⟩)
def cidRangeF (L : List S40) (e i : Int) : Ex S50 := bX (pairF L e i turnedB) fun x => bX (toF L e (i + 2) (x.f1.f1 - x.f0.f1)) fun u => some (.ok ⟨x.f0, x.f1, u, [], []⟩)
def bfCharF (L : List S40) (e i : Int) : Ex S50 := bX (charF L e i) fun x => bX (unitsF L e (i + 1)) fun u => some (.ok ⟨x.f0, x.f1, x.f2, u.1, []⟩)
section
variable {w0 w : World} {g : Nat} {A : Option Addr} {c : Nat} {L : List S40} {i e : Int} {ov iv : Value}
theorem code_in {n : Int} {x : S46 × Int} (h : codeF L e i n = some (.ok x)) : saneC x.1.f0 x.1.f1 ∧ (n > 0 → x.1.f0 = n) ∧ x.1.f0 > 0 := by
 unfold codeF at h
 obtain ⟨p, ht, hr⟩ | ⟨t, ht, h⟩ := bX_ok h
 ·cases hr
 ·split at h
  ·split at h
   ·rename_i hs hc
    injection h with h; injection h with h; subst h
    have hv := valF_sane _ hc.1
    refine ⟨hv, hc.2, ?_⟩
    obtain ⟨_, hv⟩ := hv
    dsimp only
    omega
   ·injection h with h; cases h
  ·cases h
theorem pairT_calls (hC : Kd.C k40 w0 A L.length L) (hS : St w0 w g A c L i e ov iv) (h0 : 0 ≤ i) (r : Except (Int × Int) S50) (h : pairF L e i turnedB = some r) :
  Calls Tryz.prog 122 #[.pointer (some ⟨g, 0, none⟩), .func (.func 124) #[] #[]] w (Out w0 w g A c L e ov iv (fun _ t v => v = .agg (ent7 t (.slice none 0 0) (.slice none 0 0))) (fun _ => i + 2) r) :=
 pair_calls hC hS h0 124 (fun _ _ => rfl) turnedB (fun w lo hi _ _ _ => syn_turned.calls lo.f0 lo.f1 hi.f0 hi.f1 _ w rfl) r h
theorem pairO_calls (hC : Kd.C k40 w0 A L.length L) (hS : St w0 w g A c L i e ov iv) (h0 : 0 ≤ i) (r : Except (Int × Int) S50) (h : pairF L e i outsideB = some r) :
  Calls Tryz.prog 122 #[.pointer (some ⟨g, 0, none⟩), .func (.func 123) #[] #[]] w (Out w0 w g A c L e ov iv (fun _ t v => v = .agg (ent7 t (.slice none 0 0) (.slice none 0 0))) (fun _ => i + 2) r) :=
 pair_calls hC hS h0 123 (fun _ _ => rfl) outsideB (fun w lo hi _ h1 h2 => by
  have a := code_in h1
  have b := code_in h2
  exact syn_outside.calls 20 lo.f0 lo.f1 hi.f0 hi.f1 _ w (outside_eq lo hi a.1 b.1 (b.2.1 a.2.2))) r h
theorem pairT_range {x : S50} (h : pairF L e i turnedB = some (.ok x)) : 0 ≤ x.f1.f1 - x.f0.f1 ∧ x.f1.f1 - x.f0.f1 ≤ 4294967296 := by
 unfold pairF at h
 obtain ⟨p, h1, hr⟩ | ⟨lo, h1, h⟩ := bX_ok h
 ·cases hr
 obtain ⟨p, h2, hr⟩ | ⟨hi, h2, h⟩ := bX_ok h
 ·cases hr
 split at h
 ·injection h with h; cases h
 ·rename_i hb
  injection h with h; injection h with h; subst h
  have ht : ¬ hi.1.f1 < lo.1.f1 := fun hx => hb (decide_eq_true hx)
  obtain ⟨a0, a⟩ := (code_in h1).1
  obtain ⟨b0, b⟩ := (code_in h2).1
  dsimp only
  omega
theorem pair_rows {bad : S46 → S46 → Bool} {x : S50} (h : pairF L e i bad = some (.ok x)) : x.f3 = [] ∧ x.f4 = [] := by
 unfold pairF at h
 obtain ⟨p, h1, hr⟩ | ⟨lo, h1, h⟩ := bX_ok h
 ·cases hr
 obtain ⟨p, h2, hr⟩ | ⟨hi, h2, h⟩ := bX_ok h
 ·cases hr
 split at h
 ·injection h with h; cases h
 ·injection h with h; injection h with h; subst h; exact ⟨rfl, rfl⟩
theorem char_calls (hC : Kd.C k40 w0 A L.length L) (hS : St w0 w g A c L i e ov iv) (h0 : 0 ≤ i) (r : Except (Int × Int) S50) (h : charF L e i = some r) :
  Calls Tryz.prog 128 #[.pointer (some ⟨g, 0, none⟩)] w (Out w0 w g A c L e ov iv (fun _ t v => v = .agg (ent7 t (.slice none 0 0) (.slice none 0 0))) (fun _ => i + 1) r) := by
 have hu46 := Tryz.underlying46
 have hu50 := Tryz.underlying50
 unfold charF at h
 obtain ⟨p, h1, rfl⟩ | ⟨lo, h1, h⟩ := bX_ok h
 ·skip
  have HS := aM hS
  have HK := aM (KeepBut.refl w g none)
  clear hS
  go_enter Tryz.func128, Tryz.ntmps128
  go_wp2_with (first | ((with_reducible refine gD 2 ?_); refine bE 2 (cs := #[.int .i64 0, .int .i64 0, .int .i64 0, .int .i64 0, .int .i64 0, .slice none 0 0, .slice none 0 0]) (t := 50) ?_; intro gb hg w1 hbox hb; have BKgb := aM hbox; have NEgb := aM (show g ≠ gb by rw [hg]; exact Nat.ne_of_lt (blk_lt HS.out.blk)); have NFgb := aM (Ne.symm NEgb.out); have GEgb := aM (show w0.heap.size ≤ gb by rw [hg]; exact HS.out.below.size); replace HS := aM (HS.out.of_below hb); replace HK := aM (KeepBut.trans HK.out (KeepBut.of_below hb g none) (.inl rfl)); have GW := aM (show w.heap.size ≤ gb by rw [hg]; exact Nat.le_refl _); clear hb hbox hg; obtain ⟨sc0, sc1, sc2, sc3, sc4, sf0, sf1, sf2, sf3, sf4⟩ := b5 HS.out.blk; obtain ⟨gbk0, gbk1, gbk2, gbk3, gbk4, gbk5, gbk6, gbm0, gbm1, gbm2, gbm3, gbm4, gbm5, gbm6⟩ := b7 BKgb; have nqgb := NEgb.out; have nrgb := NFgb.out) | (go_at_call 146; (with_reducible refine (code_calls hC (stC HS) h0 0 _ h1).mono ?_); rintro x' w2 ⟨rfl, hk2, hbe⟩))
  exact ⟨rfl, rfl, KeepBut.trans HK.out hk2 (.inl rfl), hbe⟩
 ·obtain rfl := Option.some.inj h
  have HS := aM hS
  have HK := aM (KeepBut.refl w g none)
  clear hS
  go_enter Tryz.func128, Tryz.ntmps128
  go_wp2_with (first | ((with_reducible refine gD 2 ?_); refine bE 2 (cs := #[.int .i64 0, .int .i64 0, .int .i64 0, .int .i64 0, .int .i64 0, .slice none 0 0, .slice none 0 0]) (t := 50) ?_; intro gb hg w1 hbox hb; have BKgb := aM hbox; have NEgb := aM (show g ≠ gb by rw [hg]; exact Nat.ne_of_lt (blk_lt HS.out.blk)); have NFgb := aM (Ne.symm NEgb.out); have GEgb := aM (show w0.heap.size ≤ gb by rw [hg]; exact HS.out.below.size); replace HS := aM (HS.out.of_below hb); replace HK := aM (KeepBut.trans HK.out (KeepBut.of_below hb g none) (.inl rfl)); have GW := aM (show w.heap.size ≤ gb by rw [hg]; exact Nat.le_refl _); clear hb hbox hg; obtain ⟨sc0, sc1, sc2, sc3, sc4, sf0, sf1, sf2, sf3, sf4⟩ := b5 HS.out.blk; obtain ⟨gbk0, gbk1, gbk2, gbk3, gbk4, gbk5, gbk6, gbm0, gbm1, gbm2, gbm3, gbm4, gbm5, gbm6⟩ := b7 BKgb; have nqgb := NEgb.out; have nrgb := NFgb.out) | (go_at_call 146; (with_reducible refine (code_calls hC (stC HS) h0 0 _ h1).mono ?_); rintro x' w2 ⟨v, rfl, rfl, hs2, hk2⟩; replace HS := aM (hs2.of_below (below_alloc (Below.refl _ _) (.cells #[.int .i64 lo.1.f0, .int .i64 lo.1.f1] 46))); have BK2 := KeepBut.blk hk2 BKgb.out NFgb.out (by simp); have NLB := aM (Nat.ne_of_gt (blk_lt BK2)); replace BKgb := aM (blk_alloc BK2 (.cells #[.int .i64 lo.1.f0, .int .i64 lo.1.f1] 46)); replace HK := aM (keepA (o := (.cells #[.int .i64 lo.1.f0, .int .i64 lo.1.f1] 46)) (KeepBut.trans HK.out hk2 (.inl rfl))); clear gbk0 gbk1 gbk2 gbk3 gbk4 gbk5 gbk6 gbm0 gbm1 gbm2 gbm3 gbm4 gbm5 gbm6; obtain ⟨gbk0, gbk1, gbk2, gbk3, gbk4, gbk5, gbk6, gbm0, gbm1, gbm2, gbm3, gbm4, gbm5, gbm6⟩ := b7 BKgb; have n1 := NLB.out; have n2 := Ne.symm NLB.out; clear hs2 hk2 BK2))
  have HB := aM HS.out.below
  have HB2 := aM HS.out.blk
  refine bodyPost_ret (results_cell_row rfl _ _ gb 50 #[.int .i64 lo.1.f0, .int .i64 lo.1.f1, .int .i64 lo.1.f0, .int .i64 lo.1.f1, .int .i64 0, .slice none 0 0, .slice none 0 0] (0, 0) _ rfl kQ Tryz.underlying50 rfl (by kernel_rfl)) rfl ?_
  exact ⟨_, rfl, rfl, ⟨bQ, HS.out.ge, kQ⟩, kpQ⟩
theorem space_calls (hC : Kd.C k40 w0 A L.length L) (hS : St w0 w g A c L i e ov iv) (h0 : 0 ≤ i) (r : Except (Int × Int) S50) (h : spaceF L e i = some r) :
  Calls Tryz.prog 102 #[.pointer (some ⟨g, 0, none⟩)] w (Out w0 w g A c L e ov iv (fun w' t v => ∃ cs, v = .agg cs ∧ k50.M w' w0.heap.size (fun k => w.heap.size ≤ k) t cs.toList) (fun _ => i + 2) r) := by
 have hu46 := Tryz.underlying46
 have hu50 := Tryz.underlying50
 unfold spaceF at h
 cases r with
 | error p =>
  have HS := aM hS
  have HK := aM (KeepBut.refl w g none)
  clear hS
  go_enter Tryz.func102, Tryz.ntmps102
  go_wp2_with (first | ((with_reducible refine gD 2 ?_); refine bE 2 (cs := #[.int .i64 0, .int .i64 0, .int .i64 0, .int .i64 0, .int .i64 0, .slice none 0 0, .slice none 0 0]) (t := 50) ?_; intro gb hg w1 hbox hb; have BKgb := aM hbox; have NEgb := aM (show g ≠ gb by rw [hg]; exact Nat.ne_of_lt (blk_lt HS.out.blk)); have NFgb := aM (Ne.symm NEgb.out); have GEgb := aM (show w0.heap.size ≤ gb by rw [hg]; exact HS.out.below.size); replace HS := aM (HS.out.of_below hb); replace HK := aM (KeepBut.trans HK.out (KeepBut.of_below hb g none) (.inl rfl)); have GW := aM (show w.heap.size ≤ gb by rw [hg]; exact Nat.le_refl _); clear hb hbox hg; obtain ⟨sc0, sc1, sc2, sc3, sc4, sf0, sf1, sf2, sf3, sf4⟩ := b5 HS.out.blk; obtain ⟨gbk0, gbk1, gbk2, gbk3, gbk4, gbk5, gbk6, gbm0, gbm1, gbm2, gbm3, gbm4, gbm5, gbm6⟩ := b7 BKgb; have nqgb := NEgb.out; have nrgb := NFgb.out) | (go_at_call 122; (with_reducible refine (pairO_calls hC (stC HS) h0 _ h).mono ?_); rintro x' w2 ⟨rfl, hk2, hbe⟩))
  exact ⟨rfl, rfl, KeepBut.trans HK.out hk2 (.inl rfl), hbe⟩
 | ok t =>
  have HS := aM hS
  have HK := aM (KeepBut.refl w g none)
  clear hS
  go_enter Tryz.func102, Tryz.ntmps102
  go_wp2_with (first | ((with_reducible refine gD 2 ?_); refine bE 2 (cs := #[.int .i64 0, .int .i64 0, .int .i64 0, .int .i64 0, .int .i64 0, .slice none 0 0, .slice none 0 0]) (t := 50) ?_; intro gb hg w1 hbox hb; have BKgb := aM hbox; have NEgb := aM (show g ≠ gb by rw [hg]; exact Nat.ne_of_lt (blk_lt HS.out.blk)); have NFgb := aM (Ne.symm NEgb.out); have GEgb := aM (show w0.heap.size ≤ gb by rw [hg]; exact HS.out.below.size); replace HS := aM (HS.out.of_below hb); replace HK := aM (KeepBut.trans HK.out (KeepBut.of_below hb g none) (.inl rfl)); have GW := aM (show w.heap.size ≤ gb by rw [hg]; exact Nat.le_refl _); clear hb hbox hg; obtain ⟨sc0, sc1, sc2, sc3, sc4, sf0, sf1, sf2, sf3, sf4⟩ := b5 HS.out.blk; obtain ⟨gbk0, gbk1, gbk2, gbk3, gbk4, gbk5, gbk6, gbm0, gbm1, gbm2, gbm3, gbm4, gbm5, gbm6⟩ := b7 BKgb; have nqgb := NEgb.out; have nrgb := NFgb.out) | (go_at_call 122; (with_reducible refine (pairO_calls hC (stC HS) h0 _ h).mono ?_); rintro x' w2 ⟨v, rfl, rfl, hs2, hk2⟩; replace HS := aM hs2; replace BKgb := aM (KeepBut.blk hk2 BKgb.out NFgb.out (by simp)); replace HK := aM (KeepBut.trans HK.out hk2 (.inl rfl)); clear gbk0 gbk1 gbk2 gbk3 gbk4 gbk5 gbk6 gbm0 gbm1 gbm2 gbm3 gbm4 gbm5 gbm6; obtain ⟨gbk0, gbk1, gbk2, gbk3, gbk4, gbk5, gbk6, gbm0, gbm1, gbm2, gbm3, gbm4, gbm5, gbm6⟩ := b7 BKgb; clear hs2 hk2))
  have HB := aM HS.out.below
  have HB2 := aM HS.out.blk
  have hx : t.f3 = [] ∧ t.f4 = [] := pair_rows h
  refine bodyPost_ret (results_cell_row rfl _ _ gb 50 #[.int .i64 t.f0.f0, .int .i64 t.f0.f1, .int .i64 t.f1.f0, .int .i64 t.f1.f1, .int .i64 t.f2, .slice none 0 0, .slice none 0 0] (0, 0) _ rfl kQ Tryz.underlying50 rfl (by kernel_rfl)) rfl ?_
  refine ⟨_, rfl, ⟨_, rfl, ?_⟩, ⟨bQ, HS.out.ge, kQ⟩, kpQ⟩
  exact k50_mkM _ _ _ t (by rw [hx.1]; exact Kd.R_nil _ _ _ _ _) (by rw [hx.2]; exact Kd.R_nil _ _ _ _ _)
theorem toChar_calls (hC : Kd.C k40 w0 A L.length L) (hS : St w0 w g A c L i e ov iv) (h0 : 0 ≤ i) (r : Except (Int × Int) S50) (h : toCharF L e i = some r) :
  Calls Tryz.prog 107 #[.pointer (some ⟨g, 0, none⟩)] w (Out w0 w g A c L e ov iv (fun w' t v => ∃ cs, v = .agg cs ∧ k50.M w' w0.heap.size (fun k => w.heap.size ≤ k) t cs.toList) (fun _ => i + 2) r) := by
 have hu46 := Tryz.underlying46
 have hu50 := Tryz.underlying50
 have hi0 : 0 ≤ i + 1 := by omega
 unfold toCharF at h
 obtain ⟨p, h1, rfl⟩ | ⟨x, h1, h⟩ := bX_ok h
 ·skip
  have HS := aM hS
  have HK := aM (KeepBut.refl w g none)
  clear hS
  go_enter Tryz.func107, Tryz.ntmps107
  go_wp2_with (first | ((with_reducible refine gD 2 ?_); refine bE 2 (cs := #[.int .i64 0, .int .i64 0, .int .i64 0, .int .i64 0, .int .i64 0, .slice none 0 0, .slice none 0 0]) (t := 50) ?_; intro gb hg w1 hbox hb; have BKgb := aM hbox; have NEgb := aM (show g ≠ gb by rw [hg]; exact Nat.ne_of_lt (blk_lt HS.out.blk)); have NFgb := aM (Ne.symm NEgb.out); have GEgb := aM (show w0.heap.size ≤ gb by rw [hg]; exact HS.out.below.size); replace HS := aM (HS.out.of_below hb); replace HK := aM (KeepBut.trans HK.out (KeepBut.of_below hb g none) (.inl rfl)); have GW := aM (show w.heap.size ≤ gb by rw [hg]; exact Nat.le_refl _); clear hb hbox hg; obtain ⟨sc0, sc1, sc2, sc3, sc4, sf0, sf1, sf2, sf3, sf4⟩ := b5 HS.out.blk; obtain ⟨gbk0, gbk1, gbk2, gbk3, gbk4, gbk5, gbk6, gbm0, gbm1, gbm2, gbm3, gbm4, gbm5, gbm6⟩ := b7 BKgb; have nqgb := NEgb.out; have nrgb := NFgb.out) | (go_at_call 128; (with_reducible refine (char_calls hC (stC HS) h0 _ h1).mono ?_); rintro x' w2 ⟨rfl, hk2, hbe⟩))
  exact ⟨rfl, rfl, KeepBut.trans HK.out hk2 (.inl rfl), hbe⟩
 obtain ⟨p, h2, rfl⟩ | ⟨u, h2, h⟩ := bX_ok h
 ·skip
  have HS := aM hS
  have HK := aM (KeepBut.refl w g none)
  clear hS
  go_enter Tryz.func107, Tryz.ntmps107
  go_wp2_with (first | ((with_reducible refine gD 2 ?_); refine bE 2 (cs := #[.int .i64 0, .int .i64 0, .int .i64 0, .int .i64 0, .int .i64 0, .slice none 0 0, .slice none 0 0]) (t := 50) ?_; intro gb hg w1 hbox hb; have BKgb := aM hbox; have NEgb := aM (show g ≠ gb by rw [hg]; exact Nat.ne_of_lt (blk_lt HS.out.blk)); have NFgb := aM (Ne.symm NEgb.out); have GEgb := aM (show w0.heap.size ≤ gb by rw [hg]; exact HS.out.below.size); replace HS := aM (HS.out.of_below hb); replace HK := aM (KeepBut.trans HK.out (KeepBut.of_below hb g none) (.inl rfl)); have GW := aM (show w.heap.size ≤ gb by rw [hg]; exact Nat.le_refl _); clear hb hbox hg; obtain ⟨sc0, sc1, sc2, sc3, sc4, sf0, sf1, sf2, sf3, sf4⟩ := b5 HS.out.blk; obtain ⟨gbk0, gbk1, gbk2, gbk3, gbk4, gbk5, gbk6, gbm0, gbm1, gbm2, gbm3, gbm4, gbm5, gbm6⟩ := b7 BKgb; have nqgb := NEgb.out; have nrgb := NFgb.out) | (go_at_call 128; (with_reducible refine (char_calls hC (stC HS) h0 _ h1).mono ?_); rintro x' w2 ⟨v, rfl, rfl, hs2, hk2⟩; have NX := aM (Nat.ne_of_gt (blk_lt hs2.blk)); replace HS := aM hs2; replace BKgb := aM (KeepBut.blk hk2 BKgb.out NFgb.out (by simp)); have NXB := aM (Nat.ne_of_gt (blk_lt BKgb.out)); replace HK := aM (KeepBut.trans HK.out hk2 (.inl rfl)); have HW := aM (keep_size HK.out); have BX := aM (blk_new w2 (.cells (ent7 x (.slice none 0 0) (.slice none 0 0)) 50)); have HW0 := aM (below_size hs2.below); clear hs2 hk2) | (go_at_call 125; (with_reducible refine (to_calls hC (stC HS) hi0 0 (by omega) (by omega) _ h2).mono ?_); rintro x' w3 ⟨rfl, hk3, hbe⟩))
  exact ⟨rfl, rfl, KeepBut.trans (keepA HK.out) hk3 (.inl rfl), hbe⟩
 ·obtain rfl := Option.some.inj h
  have HS := aM hS
  have HK := aM (KeepBut.refl w g none)
  clear hS
  go_enter Tryz.func107, Tryz.ntmps107
  go_wp2_with (first | ((with_reducible refine gD 2 ?_); refine bE 2 (cs := #[.int .i64 0, .int .i64 0, .int .i64 0, .int .i64 0, .int .i64 0, .slice none 0 0, .slice none 0 0]) (t := 50) ?_; intro gb hg w1 hbox hb; have BKgb := aM hbox; have NEgb := aM (show g ≠ gb by rw [hg]; exact Nat.ne_of_lt (blk_lt HS.out.blk)); have NFgb := aM (Ne.symm NEgb.out); have GEgb := aM (show w0.heap.size ≤ gb by rw [hg]; exact HS.out.below.size); replace HS := aM (HS.out.of_below hb); replace HK := aM (KeepBut.trans HK.out (KeepBut.of_below hb g none) (.inl rfl)); have GW := aM (show w.heap.size ≤ gb by rw [hg]; exact Nat.le_refl _); clear hb hbox hg; obtain ⟨sc0, sc1, sc2, sc3, sc4, sf0, sf1, sf2, sf3, sf4⟩ := b5 HS.out.blk; obtain ⟨gbk0, gbk1, gbk2, gbk3, gbk4, gbk5, gbk6, gbm0, gbm1, gbm2, gbm3, gbm4, gbm5, gbm6⟩ := b7 BKgb; have nqgb := NEgb.out; have nrgb := NFgb.out) | (go_at_call 128; (with_reducible refine (char_calls hC (stC HS) h0 _ h1).mono ?_); rintro x' w2 ⟨v, rfl, rfl, hs2, hk2⟩; have NX := aM (Nat.ne_of_gt (blk_lt hs2.blk)); replace HS := aM hs2; replace BKgb := aM (KeepBut.blk hk2 BKgb.out NFgb.out (by simp)); have NXB := aM (Nat.ne_of_gt (blk_lt BKgb.out)); replace HK := aM (KeepBut.trans HK.out hk2 (.inl rfl)); have HW := aM (keep_size HK.out); have BX := aM (blk_new w2 (.cells (ent7 x (.slice none 0 0) (.slice none 0 0)) 50)); have HW0 := aM (below_size hs2.below); clear hs2 hk2) | (go_at_call 125; (with_reducible refine (to_calls hC (stC HS) hi0 0 (by omega) (by omega) _ h2).mono ?_); rintro x' w3 ⟨v, rfl, rfl, hs3, hk3⟩; replace HS := aM hs3; replace BX := aM (KeepBut.blk hk3 BX.out NX.out (by simp)); replace BKgb := aM (KeepBut.blk hk3 (blk_alloc BKgb.out (.cells (ent7 x (.slice none 0 0) (.slice none 0 0)) 50)) NFgb.out (by simp)); replace HK := aM (KeepBut.trans (keepA HK.out) hk3 (.inl rfl)); clear gbk0 gbk1 gbk2 gbk3 gbk4 gbk5 gbk6 gbm0 gbm1 gbm2 gbm3 gbm4 gbm5 gbm6; obtain ⟨gbk0, gbk1, gbk2, gbk3, gbk4, gbk5, gbk6, gbm0, gbm1, gbm2, gbm3, gbm4, gbm5, gbm6⟩ := b7 BKgb; obtain ⟨xk0, xk1, xk2, xk3, xk4, xk5, xk6, xm0, xm1, xm2, xm3, xm4, xm5, xm6⟩ := b7 BX; have n1 := NXB.out; have n2 := Ne.symm NXB.out; clear hs3 hk3))
  have HB := aM HS.out.below
  have HB2 := aM HS.out.blk
  have NX2 := aM (Ne.symm NX.out)
  have n3 := aM n1
  have n4 := aM n2
  refine bodyPost_ret (results_cell_row rfl _ _ gb 50 #[.int .i64 x.f0.f0, .int .i64 x.f0.f1, .int .i64 x.f1.f0, .int .i64 x.f1.f1, .int .i64 u, .slice none 0 0, .slice none 0 0] (0, 0) _ rfl kQ Tryz.underlying50 rfl (by kernel_rfl)) rfl ?_
  have e2 : i + 1 + 1 = i + 2 := by omega
  have GX := aM (show w0.heap.size ≤ w2.heap.size from HW0.out)
  have GY := aM (show w.heap.size ≤ w2.heap.size from HW.out)
  refine ⟨_, rfl, ⟨_, rfl, ?_⟩, ⟨bQ, HS.out.ge, e2 ▸ kQ⟩, kpQ⟩
  exact k50_mkM _ _ _ (⟨x.f0, x.f1, u, [], []⟩ : S50) (Kd.R_nil _ _ _ _ _) (Kd.R_nil _ _ _ _ _)
theorem notRange_calls (hC : Kd.C k40 w0 A L.length L) (hS : St w0 w g A c L i e ov iv) (h0 : 0 ≤ i) (r : Except (Int × Int) S50) (h : notRangeF L e i = some r) :
  Calls Tryz.prog 104 #[.pointer (some ⟨g, 0, none⟩)] w (Out w0 w g A c L e ov iv (fun w' t v => ∃ cs, v = .agg cs ∧ k50.M w' w0.heap.size (fun k => w.heap.size ≤ k) t cs.toList) (fun _ => i + 3) r) := by
 have hu46 := Tryz.underlying46
 have hu50 := Tryz.underlying50
 have hi0 : 0 ≤ i + 2 := by omega
 unfold notRangeF at h
 obtain ⟨p, h1, rfl⟩ | ⟨x, h1, h⟩ := bX_ok h
 ·skip
  have HS := aM hS
  have HK := aM (KeepBut.refl w g none)
  clear hS
  go_enter Tryz.func104, Tryz.ntmps104
  go_wp2_with (first | ((with_reducible refine gD 2 ?_); refine bE 2 (cs := #[.int .i64 0, .int .i64 0, .int .i64 0, .int .i64 0, .int .i64 0, .slice none 0 0, .slice none 0 0]) (t := 50) ?_; intro gb hg w1 hbox hb; have BKgb := aM hbox; have NEgb := aM (show g ≠ gb by rw [hg]; exact Nat.ne_of_lt (blk_lt HS.out.blk)); have NFgb := aM (Ne.symm NEgb.out); have GEgb := aM (show w0.heap.size ≤ gb by rw [hg]; exact HS.out.below.size); replace HS := aM (HS.out.of_below hb); replace HK := aM (KeepBut.trans HK.out (KeepBut.of_below hb g none) (.inl rfl)); have GW := aM (show w.heap.size ≤ gb by rw [hg]; exact Nat.le_refl _); clear hb hbox hg; obtain ⟨sc0, sc1, sc2, sc3, sc4, sf0, sf1, sf2, sf3, sf4⟩ := b5 HS.out.blk; obtain ⟨gbk0, gbk1, gbk2, gbk3, gbk4, gbk5, gbk6, gbm0, gbm1, gbm2, gbm3, gbm4, gbm5, gbm6⟩ := b7 BKgb; have nqgb := NEgb.out; have nrgb := NFgb.out) | (go_at_call 122; (with_reducible refine (pairT_calls hC (stC HS) h0 _ h1).mono ?_); rintro x' w2 ⟨rfl, hk2, hbe⟩))
  exact ⟨rfl, rfl, KeepBut.trans HK.out hk2 (.inl rfl), hbe⟩
 obtain ⟨p, h2, rfl⟩ | ⟨u, h2, h⟩ := bX_ok h
 ·skip
  have HS := aM hS
  have HK := aM (KeepBut.refl w g none)
  clear hS
  go_enter Tryz.func104, Tryz.ntmps104
  go_wp2_with (first | ((with_reducible refine gD 2 ?_); refine bE 2 (cs := #[.int .i64 0, .int .i64 0, .int .i64 0, .int .i64 0, .int .i64 0, .slice none 0 0, .slice none 0 0]) (t := 50) ?_; intro gb hg w1 hbox hb; have BKgb := aM hbox; have NEgb := aM (show g ≠ gb by rw [hg]; exact Nat.ne_of_lt (blk_lt HS.out.blk)); have NFgb := aM (Ne.symm NEgb.out); have GEgb := aM (show w0.heap.size ≤ gb by rw [hg]; exact HS.out.below.size); replace HS := aM (HS.out.of_below hb); replace HK := aM (KeepBut.trans HK.out (KeepBut.of_below hb g none) (.inl rfl)); have GW := aM (show w.heap.size ≤ gb by rw [hg]; exact Nat.le_refl _); clear hb hbox hg; obtain ⟨sc0, sc1, sc2, sc3, sc4, sf0, sf1, sf2, sf3, sf4⟩ := b5 HS.out.blk; obtain ⟨gbk0, gbk1, gbk2, gbk3, gbk4, gbk5, gbk6, gbm0, gbm1, gbm2, gbm3, gbm4, gbm5, gbm6⟩ := b7 BKgb; have nqgb := NEgb.out; have nrgb := NFgb.out) | (go_at_call 122; (with_reducible refine (pairT_calls hC (stC HS) h0 _ h1).mono ?_); rintro x' w2 ⟨v, rfl, rfl, hs2, hk2⟩; have NX := aM (Nat.ne_of_gt (blk_lt hs2.blk)); replace HS := aM hs2; replace BKgb := aM (KeepBut.blk hk2 BKgb.out NFgb.out (by simp)); have NXB := aM (Nat.ne_of_gt (blk_lt BKgb.out)); replace HK := aM (KeepBut.trans HK.out hk2 (.inl rfl)); have HW := aM (keep_size HK.out); have BX := aM (blk_new w2 (.cells (ent7 x (.slice none 0 0) (.slice none 0 0)) 50)); have HW0 := aM (below_size hs2.below); clear hs2 hk2) | (go_at_call 125; (with_reducible refine (to_calls hC (stC HS) hi0 0 (by omega) (by omega) _ h2).mono ?_); rintro x' w3 ⟨rfl, hk3, hbe⟩))
  exact ⟨rfl, rfl, KeepBut.trans (keepA HK.out) hk3 (.inl rfl), hbe⟩
 ·obtain rfl := Option.some.inj h
  have HS := aM hS
  have HK := aM (KeepBut.refl w g none)
  clear hS
  go_enter Tryz.func104, Tryz.ntmps104
  go_wp2_with (first | ((with_reducible refine gD 2 ?_); refine bE 2 (cs := #[.int .i64 0, .int .i64 0, .int .i64 0, .int .i64 0, .int .i64 0, .slice none 0 0, .slice none 0 0]) (t := 50) ?_; intro gb hg w1 hbox hb; have BKgb := aM hbox; have NEgb := aM (show g ≠ gb by rw [hg]; exact Nat.ne_of_lt (blk_lt HS.out.blk)); have NFgb := aM (Ne.symm NEgb.out); have GEgb := aM (show w0.heap.size ≤ gb by rw [hg]; exact HS.out.below.size); replace HS := aM (HS.out.of_below hb); replace HK := aM (KeepBut.trans HK.out (KeepBut.of_below hb g none) (.inl rfl)); have GW := aM (show w.heap.size ≤ gb by rw [hg]; exact Nat.le_refl _); clear hb hbox hg; obtain ⟨sc0, sc1, sc2, sc3, sc4, sf0, sf1, sf2, sf3, sf4⟩ := b5 HS.out.blk; obtain ⟨gbk0, gbk1, gbk2, gbk3, gbk4, gbk5, gbk6, gbm0, gbm1, gbm2, gbm3, gbm4, gbm5, gbm6⟩ := b7 BKgb; have nqgb := NEgb.out; have nrgb := NFgb.out) | (go_at_call 122; (with_reducible refine (pairT_calls hC (stC HS) h0 _ h1).mono ?_); rintro x' w2 ⟨v, rfl, rfl, hs2, hk2⟩; have NX := aM (Nat.ne_of_gt (blk_lt hs2.blk)); replace HS := aM hs2; replace BKgb := aM (KeepBut.blk hk2 BKgb.out NFgb.out (by simp)); have NXB := aM (Nat.ne_of_gt (blk_lt BKgb.out)); replace HK := aM (KeepBut.trans HK.out hk2 (.inl rfl)); have HW := aM (keep_size HK.out); have BX := aM (blk_new w2 (.cells (ent7 x (.slice none 0 0) (.slice none 0 0)) 50)); have HW0 := aM (below_size hs2.below); clear hs2 hk2) | (go_at_call 125; (with_reducible refine (to_calls hC (stC HS) hi0 0 (by omega) (by omega) _ h2).mono ?_); rintro x' w3 ⟨v, rfl, rfl, hs3, hk3⟩; replace HS := aM hs3; replace BX := aM (KeepBut.blk hk3 BX.out NX.out (by simp)); replace BKgb := aM (KeepBut.blk hk3 (blk_alloc BKgb.out (.cells (ent7 x (.slice none 0 0) (.slice none 0 0)) 50)) NFgb.out (by simp)); replace HK := aM (KeepBut.trans (keepA HK.out) hk3 (.inl rfl)); clear gbk0 gbk1 gbk2 gbk3 gbk4 gbk5 gbk6 gbm0 gbm1 gbm2 gbm3 gbm4 gbm5 gbm6; obtain ⟨gbk0, gbk1, gbk2, gbk3, gbk4, gbk5, gbk6, gbm0, gbm1, gbm2, gbm3, gbm4, gbm5, gbm6⟩ := b7 BKgb; obtain ⟨xk0, xk1, xk2, xk3, xk4, xk5, xk6, xm0, xm1, xm2, xm3, xm4, xm5, xm6⟩ := b7 BX; have n1 := NXB.out; have n2 := Ne.symm NXB.out; clear hs3 hk3))
  have HB := aM HS.out.below
  have HB2 := aM HS.out.blk
  have NX2 := aM (Ne.symm NX.out)
  have n3 := aM n1
  have n4 := aM n2
  refine bodyPost_ret (results_cell_row rfl _ _ gb 50 #[.int .i64 x.f0.f0, .int .i64 x.f0.f1, .int .i64 x.f1.f0, .int .i64 x.f1.f1, .int .i64 u, .slice none 0 0, .slice none 0 0] (0, 0) _ rfl kQ Tryz.underlying50 rfl (by kernel_rfl)) rfl ?_
  have e2 : i + 2 + 1 = i + 3 := by omega
  have GX := aM (show w0.heap.size ≤ w2.heap.size from HW0.out)
  have GY := aM (show w.heap.size ≤ w2.heap.size from HW.out)
  refine ⟨_, rfl, ⟨_, rfl, ?_⟩, ⟨bQ, HS.out.ge, e2 ▸ kQ⟩, kpQ⟩
  exact k50_mkM _ _ _ (⟨x.f0, x.f1, u, [], []⟩ : S50) (Kd.R_nil _ _ _ _ _) (Kd.R_nil _ _ _ _ _)
theorem cidRange_calls (hC : Kd.C k40 w0 A L.length L) (hS : St w0 w g A c L i e ov iv) (h0 : 0 ≤ i) (r : Except (Int × Int) S50) (h : cidRangeF L e i = some r) :
  Calls Tryz.prog 103 #[.pointer (some ⟨g, 0, none⟩)] w (Out w0 w g A c L e ov iv (fun w' t v => ∃ cs, v = .agg cs ∧ k50.M w' w0.heap.size (fun k => w.heap.size ≤ k) t cs.toList) (fun _ => i + 3) r) := by
 have hu46 := Tryz.underlying46
 have hu50 := Tryz.underlying50
 have hi0 : 0 ≤ i + 2 := by omega
 unfold cidRangeF at h
 obtain ⟨p, h1, rfl⟩ | ⟨x, h1, h⟩ := bX_ok h
 ·skip
  have HS := aM hS
  have HK := aM (KeepBut.refl w g none)
  clear hS
  go_enter Tryz.func103, Tryz.ntmps103
  go_wp2_with (first | ((with_reducible refine gD 2 ?_); refine bE 2 (cs := #[.int .i64 0, .int .i64 0, .int .i64 0, .int .i64 0, .int .i64 0, .slice none 0 0, .slice none 0 0]) (t := 50) ?_; intro gb hg w1 hbox hb; have BKgb := aM hbox; have NEgb := aM (show g ≠ gb by rw [hg]; exact Nat.ne_of_lt (blk_lt HS.out.blk)); have NFgb := aM (Ne.symm NEgb.out); have GEgb := aM (show w0.heap.size ≤ gb by rw [hg]; exact HS.out.below.size); replace HS := aM (HS.out.of_below hb); replace HK := aM (KeepBut.trans HK.out (KeepBut.of_below hb g none) (.inl rfl)); have GW := aM (show w.heap.size ≤ gb by rw [hg]; exact Nat.le_refl _); clear hb hbox hg; obtain ⟨sc0, sc1, sc2, sc3, sc4, sf0, sf1, sf2, sf3, sf4⟩ := b5 HS.out.blk; obtain ⟨gbk0, gbk1, gbk2, gbk3, gbk4, gbk5, gbk6, gbm0, gbm1, gbm2, gbm3, gbm4, gbm5, gbm6⟩ := b7 BKgb; have nqgb := NEgb.out; have nrgb := NFgb.out) | (go_at_call 122; (with_reducible refine (pairT_calls hC (stC HS) h0 _ h1).mono ?_); rintro x' w2 ⟨rfl, hk2, hbe⟩))
  exact ⟨rfl, rfl, KeepBut.trans HK.out hk2 (.inl rfl), hbe⟩
 have hm : 0 ≤ x.f1.f1 - x.f0.f1 ∧ x.f1.f1 - x.f0.f1 ≤ 4294967296 := pairT_range h1
 have hw : wrap64 (x.f1.f1 - x.f0.f1) = x.f1.f1 - x.f0.f1 := by unfold wrap64; omega
 obtain ⟨p, h2, rfl⟩ | ⟨u, h2, h⟩ := bX_ok h
 ·skip
  have HS := aM hS
  have HK := aM (KeepBut.refl w g none)
  clear hS
  go_enter Tryz.func103, Tryz.ntmps103
  go_wp2_with (first | ((with_reducible refine gD 2 ?_); refine bE 2 (cs := #[.int .i64 0, .int .i64 0, .int .i64 0, .int .i64 0, .int .i64 0, .slice none 0 0, .slice none 0 0]) (t := 50) ?_; intro gb hg w1 hbox hb; have BKgb := aM hbox; have NEgb := aM (show g ≠ gb by rw [hg]; exact Nat.ne_of_lt (blk_lt HS.out.blk)); have NFgb := aM (Ne.symm NEgb.out); have GEgb := aM (show w0.heap.size ≤ gb by rw [hg]; exact HS.out.below.size); replace HS := aM (HS.out.of_below hb); replace HK := aM (KeepBut.trans HK.out (KeepBut.of_below hb g none) (.inl rfl)); have GW := aM (show w.heap.size ≤ gb by rw [hg]; exact Nat.le_refl _); clear hb hbox hg; obtain ⟨sc0, sc1, sc2, sc3, sc4, sf0, sf1, sf2, sf3, sf4⟩ := b5 HS.out.blk; obtain ⟨gbk0, gbk1, gbk2, gbk3, gbk4, gbk5, gbk6, gbm0, gbm1, gbm2, gbm3, gbm4, gbm5, gbm6⟩ := b7 BKgb; have nqgb := NEgb.out; have nrgb := NFgb.out) | (go_at_call 122; (with_reducible refine (pairT_calls hC (stC HS) h0 _ h1).mono ?_); rintro x' w2 ⟨v, rfl, rfl, hs2, hk2⟩; have NX := aM (Nat.ne_of_gt (blk_lt hs2.blk)); replace HS := aM hs2; replace BKgb := aM (KeepBut.blk hk2 BKgb.out NFgb.out (by simp)); have NXB := aM (Nat.ne_of_gt (blk_lt BKgb.out)); replace HK := aM (KeepBut.trans HK.out hk2 (.inl rfl)); have HW := aM (keep_size HK.out); have BX := aM (blk_new w2 (.cells (ent7 x (.slice none 0 0) (.slice none 0 0)) 50)); have HW0 := aM (below_size hs2.below); clear hs2 hk2) | (go_at_call 125; (with_reducible refine (to_calls hC (stC HS) hi0 (x.f1.f1 - x.f0.f1) hm.1 hm.2 _ h2).mono ?_); rintro x' w3 ⟨rfl, hk3, hbe⟩))
  exact ⟨rfl, rfl, KeepBut.trans (keepA HK.out) hk3 (.inl rfl), hbe⟩
 ·obtain rfl := Option.some.inj h
  have HS := aM hS
  have HK := aM (KeepBut.refl w g none)
  clear hS
  go_enter Tryz.func103, Tryz.ntmps103
  go_wp2_with (first | ((with_reducible refine gD 2 ?_); refine bE 2 (cs := #[.int .i64 0, .int .i64 0, .int .i64 0, .int .i64 0, .int .i64 0, .slice none 0 0, .slice none 0 0]) (t := 50) ?_; intro gb hg w1 hbox hb; have BKgb := aM hbox; have NEgb := aM (show g ≠ gb by rw [hg]; exact Nat.ne_of_lt (blk_lt HS.out.blk)); have NFgb := aM (Ne.symm NEgb.out); have GEgb := aM (show w0.heap.size ≤ gb by rw [hg]; exact HS.out.below.size); replace HS := aM (HS.out.of_below hb); replace HK := aM (KeepBut.trans HK.out (KeepBut.of_below hb g none) (.inl rfl)); have GW := aM (show w.heap.size ≤ gb by rw [hg]; exact Nat.le_refl _); clear hb hbox hg; obtain ⟨sc0, sc1, sc2, sc3, sc4, sf0, sf1, sf2, sf3, sf4⟩ := b5 HS.out.blk; obtain ⟨gbk0, gbk1, gbk2, gbk3, gbk4, gbk5, gbk6, gbm0, gbm1, gbm2, gbm3, gbm4, gbm5, gbm6⟩ := b7 BKgb; have nqgb := NEgb.out; have nrgb := NFgb.out) | (go_at_call 122; (with_reducible refine (pairT_calls hC (stC HS) h0 _ h1).mono ?_); rintro x' w2 ⟨v, rfl, rfl, hs2, hk2⟩; have NX := aM (Nat.ne_of_gt (blk_lt hs2.blk)); replace HS := aM hs2; replace BKgb := aM (KeepBut.blk hk2 BKgb.out NFgb.out (by simp)); have NXB := aM (Nat.ne_of_gt (blk_lt BKgb.out)); replace HK := aM (KeepBut.trans HK.out hk2 (.inl rfl)); have HW := aM (keep_size HK.out); have BX := aM (blk_new w2 (.cells (ent7 x (.slice none 0 0) (.slice none 0 0)) 50)); have HW0 := aM (below_size hs2.below); clear hs2 hk2) | (go_at_call 125; (with_reducible refine (to_calls hC (stC HS) hi0 (x.f1.f1 - x.f0.f1) hm.1 hm.2 _ h2).mono ?_); rintro x' w3 ⟨v, rfl, rfl, hs3, hk3⟩; replace HS := aM hs3; replace BX := aM (KeepBut.blk hk3 BX.out NX.out (by simp)); replace BKgb := aM (KeepBut.blk hk3 (blk_alloc BKgb.out (.cells (ent7 x (.slice none 0 0) (.slice none 0 0)) 50)) NFgb.out (by simp)); replace HK := aM (KeepBut.trans (keepA HK.out) hk3 (.inl rfl)); clear gbk0 gbk1 gbk2 gbk3 gbk4 gbk5 gbk6 gbm0 gbm1 gbm2 gbm3 gbm4 gbm5 gbm6; obtain ⟨gbk0, gbk1, gbk2, gbk3, gbk4, gbk5, gbk6, gbm0, gbm1, gbm2, gbm3, gbm4, gbm5, gbm6⟩ := b7 BKgb; obtain ⟨xk0, xk1, xk2, xk3, xk4, xk5, xk6, xm0, xm1, xm2, xm3, xm4, xm5, xm6⟩ := b7 BX; have n1 := NXB.out; have n2 := Ne.symm NXB.out; clear hs3 hk3))
  have HB := aM HS.out.below
  have HB2 := aM HS.out.blk
  have NX2 := aM (Ne.symm NX.out)
  have n3 := aM n1
  have n4 := aM n2
  refine bodyPost_ret (results_cell_row rfl _ _ gb 50 #[.int .i64 x.f0.f0, .int .i64 x.f0.f1, .int .i64 x.f1.f0, .int .i64 x.f1.f1, .int .i64 u, .slice none 0 0, .slice none 0 0] (0, 0) _ rfl kQ Tryz.underlying50 rfl (by kernel_rfl)) rfl ?_
  have e2 : i + 2 + 1 = i + 3 := by omega
  have GX := aM (show w0.heap.size ≤ w2.heap.size from HW0.out)
  have GY := aM (show w.heap.size ≤ w2.heap.size from HW.out)
  refine ⟨_, rfl, ⟨_, rfl, ?_⟩, ⟨bQ, HS.out.ge, e2 ▸ kQ⟩, kpQ⟩
  exact k50_mkM _ _ _ (⟨x.f0, x.f1, u, [], []⟩ : S50) (Kd.R_nil _ _ _ _ _) (Kd.R_nil _ _ _ _ _)
theorem bfChar_calls (hC : Kd.C k40 w0 A L.length L) (hS : St w0 w g A c L i e ov iv) (h0 : 0 ≤ i) (r : Except (Int × Int) S50) (h : bfCharF L e i = some r) :
  Calls Tryz.prog 106 #[.pointer (some ⟨g, 0, none⟩)] w (Out w0 w g A c L e ov iv (fun w' t v => ∃ cs, v = .agg cs ∧ k50.M w' w0.heap.size (fun k => w.heap.size ≤ k) t cs.toList) (fun _ => i + 2) r) := by
 have hu46 := Tryz.underlying46
 have hu50 := Tryz.underlying50
 have hi0 : 0 ≤ i + 1 := by omega
 unfold bfCharF at h
 obtain ⟨p, h1, rfl⟩ | ⟨x, h1, h⟩ := bX_ok h
 ·skip
  have HS := aM hS
  have HK := aM (KeepBut.refl w g none)
  clear hS
  go_enter Tryz.func106, Tryz.ntmps106
  go_wp2_with (first | ((with_reducible refine gD 2 ?_); refine bE 2 (cs := #[.int .i64 0, .int .i64 0, .int .i64 0, .int .i64 0, .int .i64 0, .slice none 0 0, .slice none 0 0]) (t := 50) ?_; intro gb hg w1 hbox hb; have BKgb := aM hbox; have NEgb := aM (show g ≠ gb by rw [hg]; exact Nat.ne_of_lt (blk_lt HS.out.blk)); have NFgb := aM (Ne.symm NEgb.out); have GEgb := aM (show w0.heap.size ≤ gb by rw [hg]; exact HS.out.below.size); replace HS := aM (HS.out.of_below hb); replace HK := aM (KeepBut.trans HK.out (KeepBut.of_below hb g none) (.inl rfl)); have GW := aM (show w.heap.size ≤ gb by rw [hg]; exact Nat.le_refl _); clear hb hbox hg; obtain ⟨sc0, sc1, sc2, sc3, sc4, sf0, sf1, sf2, sf3, sf4⟩ := b5 HS.out.blk; obtain ⟨gbk0, gbk1, gbk2, gbk3, gbk4, gbk5, gbk6, gbm0, gbm1, gbm2, gbm3, gbm4, gbm5, gbm6⟩ := b7 BKgb; have nqgb := NEgb.out; have nrgb := NFgb.out) | (go_at_call 128; (with_reducible refine (char_calls hC (stC HS) h0 _ h1).mono ?_); rintro x' w2 ⟨rfl, hk2, hbe⟩))
  exact ⟨rfl, rfl, KeepBut.trans HK.out hk2 (.inl rfl), hbe⟩
 obtain ⟨p, h2, rfl⟩ | ⟨u, h2, h⟩ := bX_ok h
 ·skip
  have HS := aM hS
  have HK := aM (KeepBut.refl w g none)
  clear hS
  go_enter Tryz.func106, Tryz.ntmps106
  go_wp2_with (first | ((with_reducible refine gD 2 ?_); refine bE 2 (cs := #[.int .i64 0, .int .i64 0, .int .i64 0, .int .i64 0, .int .i64 0, .slice none 0 0, .slice none 0 0]) (t := 50) ?_; intro gb hg w1 hbox hb; have BKgb := aM hbox; have NEgb := aM (show g ≠ gb by rw [hg]; exact Nat.ne_of_lt (blk_lt HS.out.blk)); have NFgb := aM (Ne.symm NEgb.out); have GEgb := aM (show w0.heap.size ≤ gb by rw [hg]; exact HS.out.below.size); replace HS := aM (HS.out.of_below hb); replace HK := aM (KeepBut.trans HK.out (KeepBut.of_below hb g none) (.inl rfl)); have GW := aM (show w.heap.size ≤ gb by rw [hg]; exact Nat.le_refl _); clear hb hbox hg; obtain ⟨sc0, sc1, sc2, sc3, sc4, sf0, sf1, sf2, sf3, sf4⟩ := b5 HS.out.blk; obtain ⟨gbk0, gbk1, gbk2, gbk3, gbk4, gbk5, gbk6, gbm0, gbm1, gbm2, gbm3, gbm4, gbm5, gbm6⟩ := b7 BKgb; have nqgb := NEgb.out; have nrgb := NFgb.out) | (go_at_call 128; (with_reducible refine (char_calls hC (stC HS) h0 _ h1).mono ?_); rintro x' w2 ⟨v, rfl, rfl, hs2, hk2⟩; have NX := aM (Nat.ne_of_gt (blk_lt hs2.blk)); replace HS := aM hs2; replace BKgb := aM (KeepBut.blk hk2 BKgb.out NFgb.out (by simp)); have NXB := aM (Nat.ne_of_gt (blk_lt BKgb.out)); replace HK := aM (KeepBut.trans HK.out hk2 (.inl rfl)); have HW := aM (keep_size HK.out); have BX := aM (blk_new w2 (.cells (ent7 x (.slice none 0 0) (.slice none 0 0)) 50)); have HW0 := aM (below_size hs2.below); clear hs2 hk2) | (go_at_call 127; (with_reducible refine (units_calls hC (stC HS) hi0 _ h2).mono ?_); rintro x' w3 ⟨rfl, hk3, hbe⟩))
  exact ⟨rfl, rfl, KeepBut.trans (keepA HK.out) hk3 (.inl rfl), hbe⟩
 ·obtain rfl := Option.some.inj h
  have HS := aM hS
  have HK := aM (KeepBut.refl w g none)
  clear hS
  go_enter Tryz.func106, Tryz.ntmps106
  go_wp2_with (first | ((with_reducible refine gD 2 ?_); refine bE 2 (cs := #[.int .i64 0, .int .i64 0, .int .i64 0, .int .i64 0, .int .i64 0, .slice none 0 0, .slice none 0 0]) (t := 50) ?_; intro gb hg w1 hbox hb; have BKgb := aM hbox; have NEgb := aM (show g ≠ gb by rw [hg]; exact Nat.ne_of_lt (blk_lt HS.out.blk)); have NFgb := aM (Ne.symm NEgb.out); have GEgb := aM (show w0.heap.size ≤ gb by rw [hg]; exact HS.out.below.size); replace HS := aM (HS.out.of_below hb); replace HK := aM (KeepBut.trans HK.out (KeepBut.of_below hb g none) (.inl rfl)); have GW := aM (show w.heap.size ≤ gb by rw [hg]; exact Nat.le_refl _); clear hb hbox hg; obtain ⟨sc0, sc1, sc2, sc3, sc4, sf0, sf1, sf2, sf3, sf4⟩ := b5 HS.out.blk; obtain ⟨gbk0, gbk1, gbk2, gbk3, gbk4, gbk5, gbk6, gbm0, gbm1, gbm2, gbm3, gbm4, gbm5, gbm6⟩ := b7 BKgb; have nqgb := NEgb.out; have nrgb := NFgb.out) | (go_at_call 128; (with_reducible refine (char_calls hC (stC HS) h0 _ h1).mono ?_); rintro x' w2 ⟨v, rfl, rfl, hs2, hk2⟩; have NX := aM (Nat.ne_of_gt (blk_lt hs2.blk)); replace HS := aM hs2; replace BKgb := aM (KeepBut.blk hk2 BKgb.out NFgb.out (by simp)); have NXB := aM (Nat.ne_of_gt (blk_lt BKgb.out)); replace HK := aM (KeepBut.trans HK.out hk2 (.inl rfl)); have HW := aM (keep_size HK.out); have BX := aM (blk_new w2 (.cells (ent7 x (.slice none 0 0) (.slice none 0 0)) 50)); have HW0 := aM (below_size hs2.below); clear hs2 hk2) | (go_at_call 127; (with_reducible refine (units_calls hC (stC HS) hi0 _ h2).mono ?_); rintro x' w3 ⟨v, rfl, ⟨vu, rfl, hr3⟩, hs3, hk3⟩; replace HS := aM hs3; obtain ⟨Au, cu, hvu⟩ := Kd.R_slice hr3; subst hvu; have HR := aM (Kd.R_mono (ok' := fun k => w.heap.size ≤ k) (Kd.R_lower hr3 (Nat.le_trans HW0.out (Nat.le_of_lt (blk_lt BX.out)))) (fun k hk => Nat.le_trans (Nat.le_trans HW.out (Nat.le_of_lt (blk_lt BX.out))) hk)); replace BX := aM (KeepBut.blk hk3 BX.out NX.out (by simp)); replace BKgb := aM (KeepBut.blk hk3 (blk_alloc BKgb.out (.cells (ent7 x (.slice none 0 0) (.slice none 0 0)) 50)) NFgb.out (by simp)); replace HK := aM (KeepBut.trans (keepA HK.out) hk3 (.inl rfl)); clear gbk0 gbk1 gbk2 gbk3 gbk4 gbk5 gbk6 gbm0 gbm1 gbm2 gbm3 gbm4 gbm5 gbm6; obtain ⟨gbk0, gbk1, gbk2, gbk3, gbk4, gbk5, gbk6, gbm0, gbm1, gbm2, gbm3, gbm4, gbm5, gbm6⟩ := b7 BKgb; obtain ⟨xk0, xk1, xk2, xk3, xk4, xk5, xk6, xm0, xm1, xm2, xm3, xm4, xm5, xm6⟩ := b7 BX; have n1 := NXB.out; have n2 := Ne.symm NXB.out; clear hs3 hk3))
  have HB := aM HS.out.below
  have HB2 := aM HS.out.blk
  have NX2 := aM (Ne.symm NX.out)
  have n3 := aM n1
  have n4 := aM n2
  refine bodyPost_ret (results_cell_row rfl _ _ gb 50 #[.int .i64 x.f0.f0, .int .i64 x.f0.f1, .int .i64 x.f1.f0, .int .i64 x.f1.f1, .int .i64 x.f2, .slice Au u.1.length cu, .slice none 0 0] (0, 0) _ rfl kQ Tryz.underlying50 rfl (by kernel_rfl)) rfl ?_
  have e2 : i + 1 + 1 = i + 2 := by omega
  have GX := aM (show w0.heap.size ≤ w2.heap.size from HW0.out)
  have GY := aM (show w.heap.size ≤ w2.heap.size from HW.out)
  refine ⟨_, rfl, ⟨_, rfl, ?_⟩, ⟨bQ, HS.out.ge, e2 ▸ kQ⟩, kpQ⟩
  refine k50_mkM _ _ _ (⟨x.f0, x.f1, x.f2, u.1, []⟩ : S50) ?_ (Kd.R_nil _ _ _ _ _)
  have hz : (w3.setCell ⟨w2.heap.size, 5, none⟩ (.slice Au u.1.length cu)).heap[gb]? = some (.cells #[.int .i64 0, .int .i64 0, .int .i64 0, .int .i64 0, .int .i64 0, .slice none 0 0, .slice none 0 0] 50 (0, 0)) := kQ
  have h1 := R_keepT HR.out BX.out (by decide) (KeepBut.set_ (KeepBut.refl w3 w2.heap.size none) 5 (.slice Au u.1.length cu))
  exact R_keepT h1 hz (by decide) (KeepBut.set_ (KeepBut.set_ (KeepBut.set_ (KeepBut.set_ (KeepBut.set_ (KeepBut.set_ (KeepBut.set_ (KeepBut.refl _ gb none) 0 _) 1 _) 2 _) 3 _) 4 _) 5 _) 6 _)
end
end Go.Proofs.YtjplnhdplpiogaaGreatDoor.M
end
