/- Packed by this session's program hbpack.py out of this claim's own texts (QK, G, Ya, Q161, Q56, Yb, Yc, Yd, Q92, Q101, Q80, Q81, Ye, Yf, Yg, Yh, Yi, Yj, Yk, Yl, Ym, Yn, Q12, Q24): the same declarations, without those that the claim does not use. -/
import Derived.Test.YtjplnhdplpiogaaGreatDoorPkSynDeep1
import Derived.Below
import Derived.Deep.Draws
import Derived.Deep.AppendLies
import Derived.Maps.AppendAt
import Derived.OwnWalk
import Derived.Laws.BytesArg
import Derived.Laws.MakeOwn
import Derived.Laws.OwnMore
import Derived.Deep.OwnRows
import Derived.Tactics
import Derived.Lib.ConvBytes
import Derived.Laws.Slices
import Derived.WalkKit
import Derived.KernelRfl
import Derived.RowKit3
import Derived.Deep.LoopGhost
import Derived.Deep.QuietTactic
import Derived.BigQuiet
import Derived.WideLaws
import Derived.Deep.DeepCutAuto
import Derived.Deep.CutBlock
import Derived.Deep.RegionHeld3
import Derived.Laws.Rows
import Derived.Lib.AppendStr
import Derived.ArgAppend
import Derived.Laws.IdiomCopy
import Derived.OrdersHeld
import Derived.Laws.BitsLemmas
import Derived.RowKit
import Derived.Test.YtjplnhdplpiogaaGreatDoorProg
import Derived.Lib.LaidTab
import Derived.Lib.ItoaNum
import Derived.Defers
import Derived.Recover
import Derived.Deep.RegionLaw
import Derived.Deep.RegionWith
section
/- Laid by this session's program hbprint.py out of the translation: the values' own kinds. -/
namespace Go.Proofs.YtjplnhdplpiogaaGreatDoor.M
open Go.RowKit Go.Proofs.YtjplnhdplpiogaaGreatDoorW.PrintWords Go.Proofs.YtjplnhdplpiogaaGreatDoorW.PrintLast Go.Proofs.YtjplnhdplpiogaaGreatDoorW.PrintMore
attribute [local go_sem] max2_int min2_int max_two min_two max_three min_three max_four min_four
set_option linter.unusedVariables false
set_option linter.unusedSimpArgs false
def errW : Option Int → Value
 | none => .nilIface
 | some c => .iface 0 (.int .i64 c)
theorem errW_none : errW none = .nilIface := rfl
theorem errW_some (c : Int) : errW (some c) = .iface 0 (.int .i64 c) := rfl
theorem info3 : (Tryz.prog.info? 3).map (fun i => (i.zero, i.size, i.bytes)) = some (some (.int .i64 0), 1, 8) := by kernel_rfl
theorem info5 : (Tryz.prog.info? 5).map (fun i => (i.zero, i.size, i.bytes)) = some (some (.int .u8 0), 1, 1) := by kernel_rfl
theorem info40 : (Tryz.prog.info? 40).map (fun i => (i.zero, i.size, i.bytes)) = some (some (.agg #[(.int .i64 0), (.int .i64 0), (.int .i64 0), (.string ⟨#[]⟩)]), 4, 40) := by kernel_rfl
theorem info69 : (Tryz.prog.info? 69).map (fun i => (i.zero, i.size, i.bytes)) = some (some (.agg #[(.int .i64 0), (.int .i64 0), (.string ⟨#[]⟩), (.int .i64 0), (.int .i64 0), (.int .i64 0), (.string ⟨#[]⟩), (.slice none 0 0)]), 8, 96) := by kernel_rfl
theorem info83 : (Tryz.prog.info? 83).map (fun i => (i.zero, i.size, i.bytes)) = some (some (.agg #[(.int .i64 0), (.int .i64 0), (.int .i64 0), (.int .i64 0), (.int .i64 0), (.slice none 0 0), (.slice none 0 0)]), 7, 88) := by kernel_rfl
structure S40 where
 f0 : Int
 f1 : Int
 f2 : Int
 f3 : ByteArray
def z40 : S40 := ⟨(0 : Int), (0 : Int), (0 : Int), (⟨#[]⟩ : ByteArray)⟩
def k40 : Kd S40 := Kd.iso (Kd.pair (Kd.int .i64) (Kd.pair (Kd.int .i64) (Kd.pair (Kd.int .i64) Kd.string))) (fun x : S40 => (x.f0, x.f1, x.f2, x.f3))
theorem k40_open {w : World} {x : S40} {cs : List Value} (h : k40.K w x cs) : cs = [.int .i64 x.f0, .int .i64 x.f1, .int .i64 x.f2, .string x.f3] := by
 obtain ⟨_, _, rfl, rfl, ⟨_, _, rfl, rfl, ⟨_, _, rfl, rfl, rfl⟩⟩⟩ := h
 exact rfl
theorem k40_mk (w : World) (x : S40)  : k40.K w x [.int .i64 x.f0, .int .i64 x.f1, .int .i64 x.f2, .string x.f3] := ⟨[.int .i64 x.f0], [.int .i64 x.f1, .int .i64 x.f2, .string x.f3], rfl, rfl, ⟨[.int .i64 x.f1], [.int .i64 x.f2, .string x.f3], rfl, rfl, ⟨[.int .i64 x.f2], [.string x.f3], rfl, rfl, rfl⟩⟩⟩
theorem k40_mkM (w : World) (base : Nat) (ok : Nat → Prop) (x : S40)  : k40.M w base ok x [.int .i64 x.f0, .int .i64 x.f1, .int .i64 x.f2, .string x.f3] := ⟨[.int .i64 x.f0], [.int .i64 x.f1, .int .i64 x.f2, .string x.f3], rfl, rfl, ⟨[.int .i64 x.f1], [.int .i64 x.f2, .string x.f3], rfl, rfl, ⟨[.int .i64 x.f2], [.string x.f3], rfl, rfl, rfl⟩⟩⟩
def rd_T40 (xs : List S40) (i : Int) : S40 := xs.getD i.toNat z40
theorem at_T40 {w : World} {A : Option Addr} {n : Nat} {xs : List S40} (h : Kd.C k40 w A n xs) (i : Int) (h0 : 0 ≤ i) (h1 : i < n) : ∃ ad , A = some ad ∧ w.cell? (ad.add (i.toNat * 4)) = some (.int .i64 (rd_T40 xs i).f0) ∧ w.cell? ⟨(ad.add (i.toNat * 4)).block, (ad.add (i.toNat * 4)).off + 1, none⟩ = some (.int .i64 (rd_T40 xs i).f1) ∧ w.cell? ⟨(ad.add (i.toNat * 4)).block, (ad.add (i.toNat * 4)).off + 2, none⟩ = some (.int .i64 (rd_T40 xs i).f2) ∧ w.cell? ⟨(ad.add (i.toNat * 4)).block, (ad.add (i.toNat * 4)).off + 3, none⟩ = some (.string (rd_T40 xs i).f3) := by
 obtain ⟨ad, c, e, _, hK, hc0⟩ := Kd.C_get h z40 i h0 h1
 have hc : ∀ j u, c[j]? = some u → w.cell? (ad.add (i.toNat * 4 + j)) = some u := hc0
 obtain rfl := k40_open hK
 exact ⟨ad, e, hc 0 _ rfl, by rw [← add_field _ _ 1 (by omega)]; exact hc 1 _ rfl, by rw [← add_field _ _ 2 (by omega)]; exact hc 2 _ rfl, by rw [← add_field _ _ 3 (by omega)]; exact hc 3 _ rfl⟩
structure S46 where
 f0 : Int
 f1 : Int
def z46 : S46 := ⟨(0 : Int), (0 : Int)⟩
def k46 : Kd S46 := Kd.iso (Kd.pair (Kd.int .i64) (Kd.int .i64)) (fun x : S46 => (x.f0, x.f1))
theorem k46_open {w : World} {x : S46} {cs : List Value} (h : k46.K w x cs) : cs = [.int .i64 x.f0, .int .i64 x.f1] := by
 obtain ⟨_, _, rfl, rfl, rfl⟩ := h
 exact rfl
theorem k46_mk (w : World) (x : S46)  : k46.K w x [.int .i64 x.f0, .int .i64 x.f1] := ⟨[.int .i64 x.f0], [.int .i64 x.f1], rfl, rfl, rfl⟩
theorem k46_mkM (w : World) (base : Nat) (ok : Nat → Prop) (x : S46)  : k46.M w base ok x [.int .i64 x.f0, .int .i64 x.f1] := ⟨[.int .i64 x.f0], [.int .i64 x.f1], rfl, rfl, rfl⟩
structure S50 where
 f0 : S46
 f1 : S46
 f2 : Int
 f3 : (List Int)
 f4 : (List (List Int))
def z50 : S50 := ⟨z46, z46, (0 : Int), ([] : List Int), ([] : List (List Int))⟩
def k50 : Kd S50 := Kd.iso (Kd.pair k46 (Kd.pair k46 (Kd.pair (Kd.int .i64) (Kd.pair (Kd.slice 3 (Kd.int .i64)) (Kd.slice 47 (Kd.slice 3 (Kd.int .i64))))))) (fun x : S50 => (x.f0, x.f1, x.f2, x.f3, x.f4))
theorem k50_open {w : World} {x : S50} {cs : List Value} (h : k50.K w x cs) : ∃ A5 c5 A6 c6, cs = [.int .i64 x.f0.f0, .int .i64 x.f0.f1, .int .i64 x.f1.f0, .int .i64 x.f1.f1, .int .i64 x.f2, .slice A5 x.f3.length c5, .slice A6 x.f4.length c6] ∧ x.f3.length ≤ c5 ∧ (Kd.int .i64).C w A5 x.f3.length x.f3 ∧ x.f4.length ≤ c6 ∧ (Kd.slice 3 (Kd.int .i64)).C w A6 x.f4.length x.f4 := by
 obtain ⟨_, _, rfl, s0, ⟨_, _, rfl, s2, ⟨_, _, rfl, rfl, ⟨_, _, rfl, ⟨A5, c5, rfl, l5, g5⟩, ⟨A6, c6, rfl, l6, g6⟩⟩⟩⟩⟩ := h
 obtain rfl := k46_open s0
 obtain rfl := k46_open s2
 exact ⟨A5, c5, A6, c6, rfl, l5, g5, l6, g6⟩
theorem k50_mkM (w : World) (base : Nat) (ok : Nat → Prop) (x : S50) {v5 : Value} (g5 : (Kd.int .i64).R 3 w base ok v5 x.f3) {v6 : Value} (g6 : (Kd.slice 3 (Kd.int .i64)).R 47 w base ok v6 x.f4) : k50.M w base ok x [.int .i64 x.f0.f0, .int .i64 x.f0.f1, .int .i64 x.f1.f0, .int .i64 x.f1.f1, .int .i64 x.f2, v5, v6] := ⟨[.int .i64 x.f0.f0, .int .i64 x.f0.f1], [.int .i64 x.f1.f0, .int .i64 x.f1.f1, .int .i64 x.f2, v5, v6], rfl, (k46_mkM w base ok x.f0 ), ⟨[.int .i64 x.f1.f0, .int .i64 x.f1.f1], [.int .i64 x.f2, v5, v6], rfl, (k46_mkM w base ok x.f1 ), ⟨[.int .i64 x.f2], [v5, v6], rfl, rfl, ⟨[v5], [v6], rfl, ⟨v5, rfl, g5⟩, ⟨v6, rfl, g6⟩⟩⟩⟩⟩
theorem k50_openF {W : World} {ok : Nat → Prop} {x : S50} {cs : List Value} (h : Kd.FK k50 W ok x cs) : ∃ A5 c5 A6 c6, cs = [.int .i64 x.f0.f0, .int .i64 x.f0.f1, .int .i64 x.f1.f0, .int .i64 x.f1.f1, .int .i64 x.f2, .slice A5 x.f3.length c5, .slice A6 x.f4.length c6] ∧ x.f3.length ≤ c5 ∧ Kd.F (Kd.int .i64) W ok A5 x.f3.length x.f3 ∧ x.f4.length ≤ c6 ∧ Kd.F (Kd.slice 3 (Kd.int .i64)) W ok A6 x.f4.length x.f4 := by
 obtain ⟨A5, c5, A6, c6, rfl, l5, _, l6, _⟩ := k50_open (Kd.FK_now h)
 exact ⟨A5, c5, A6, c6, rfl, l5, (fun W' hW => by obtain ⟨A5_, c5_, A6_, c6_, he, l5_, g5_, l6_, g6_⟩ := k50_open (h W' hW); injection (Option.some.inj (show some (Value.slice A5 x.f3.length c5) = some (Value.slice A5_ x.f3.length c5_) from congrArg (fun l => l[5]?) he)) with ha_ _ _; rw [ha_]; exact g5_), l6, (fun W' hW => by obtain ⟨A5_, c5_, A6_, c6_, he, l5_, g5_, l6_, g6_⟩ := k50_open (h W' hW); injection (Option.some.inj (show some (Value.slice A6 x.f4.length c6) = some (Value.slice A6_ x.f4.length c6_) from congrArg (fun l => l[6]?) he)) with ha_ _ _; rw [ha_]; exact g6_)⟩
def rd_T50 (xs : List S50) (i : Int) : S50 := xs.getD i.toNat z50
theorem at_T50 {w : World} {A : Option Addr} {n : Nat} {xs : List S50} (h : Kd.C k50 w A n xs) (i : Int) (h0 : 0 ≤ i) (h1 : i < n) : ∃ ad A5 c5 A6 c6, A = some ad ∧ w.cell? (ad.add (i.toNat * 7)) = some (.int .i64 (rd_T50 xs i).f0.f0) ∧ w.cell? ⟨(ad.add (i.toNat * 7)).block, (ad.add (i.toNat * 7)).off + 1, none⟩ = some (.int .i64 (rd_T50 xs i).f0.f1) ∧ w.cell? ⟨(ad.add (i.toNat * 7)).block, (ad.add (i.toNat * 7)).off + 2, none⟩ = some (.int .i64 (rd_T50 xs i).f1.f0) ∧ w.cell? ⟨(ad.add (i.toNat * 7)).block, (ad.add (i.toNat * 7)).off + 3, none⟩ = some (.int .i64 (rd_T50 xs i).f1.f1) ∧ w.cell? ⟨(ad.add (i.toNat * 7)).block, (ad.add (i.toNat * 7)).off + 4, none⟩ = some (.int .i64 (rd_T50 xs i).f2) ∧ w.cell? ⟨(ad.add (i.toNat * 7)).block, (ad.add (i.toNat * 7)).off + 5, none⟩ = some (.slice A5 (rd_T50 xs i).f3.length c5) ∧ w.cell? ⟨(ad.add (i.toNat * 7)).block, (ad.add (i.toNat * 7)).off + 6, none⟩ = some (.slice A6 (rd_T50 xs i).f4.length c6) ∧ (rd_T50 xs i).f3.length ≤ c5 ∧ (Kd.int .i64).C w A5 (rd_T50 xs i).f3.length (rd_T50 xs i).f3 ∧ (rd_T50 xs i).f4.length ≤ c6 ∧ (Kd.slice 3 (Kd.int .i64)).C w A6 (rd_T50 xs i).f4.length (rd_T50 xs i).f4 := by
 obtain ⟨ad, c, e, _, hK, hc0⟩ := Kd.C_get h z50 i h0 h1
 have hc : ∀ j u, c[j]? = some u → w.cell? (ad.add (i.toNat * 7 + j)) = some u := hc0
 obtain ⟨A5, c5, A6, c6, rfl, l5, g5, l6, g6⟩ := k50_open hK
 exact ⟨ad, A5, c5, A6, c6, e, hc 0 _ rfl, by rw [← add_field _ _ 1 (by omega)]; exact hc 1 _ rfl, by rw [← add_field _ _ 2 (by omega)]; exact hc 2 _ rfl, by rw [← add_field _ _ 3 (by omega)]; exact hc 3 _ rfl, by rw [← add_field _ _ 4 (by omega)]; exact hc 4 _ rfl, by rw [← add_field _ _ 5 (by omega)]; exact hc 5 _ rfl, by rw [← add_field _ _ 6 (by omega)]; exact hc 6 _ rfl, l5, g5, l6, g6⟩
structure S43 where
 f0 : Int
 f1 : Int
 f2 : ByteArray
 f3 : S40
 f4 : (List S50)
def z43 : S43 := ⟨(0 : Int), (0 : Int), (⟨#[]⟩ : ByteArray), z40, ([] : List S50)⟩
def k43 : Kd S43 := Kd.iso (Kd.pair (Kd.int .i64) (Kd.pair (Kd.int .i64) (Kd.pair Kd.string (Kd.pair k40 (Kd.slice 50 k50))))) (fun x : S43 => (x.f0, x.f1, x.f2, x.f3, x.f4))
theorem k43_open {w : World} {x : S43} {cs : List Value} (h : k43.K w x cs) : ∃ A7 c7, cs = [.int .i64 x.f0, .int .i64 x.f1, .string x.f2, .int .i64 x.f3.f0, .int .i64 x.f3.f1, .int .i64 x.f3.f2, .string x.f3.f3, .slice A7 x.f4.length c7] ∧ x.f4.length ≤ c7 ∧ k50.C w A7 x.f4.length x.f4 := by
 obtain ⟨_, _, rfl, rfl, ⟨_, _, rfl, rfl, ⟨_, _, rfl, rfl, ⟨_, _, rfl, s3, ⟨A7, c7, rfl, l7, g7⟩⟩⟩⟩⟩ := h
 obtain rfl := k40_open s3
 exact ⟨A7, c7, rfl, l7, g7⟩
theorem k43_mkM (w : World) (base : Nat) (ok : Nat → Prop) (x : S43) {v7 : Value} (g7 : k50.R 50 w base ok v7 x.f4) : k43.M w base ok x [.int .i64 x.f0, .int .i64 x.f1, .string x.f2, .int .i64 x.f3.f0, .int .i64 x.f3.f1, .int .i64 x.f3.f2, .string x.f3.f3, v7] := ⟨[.int .i64 x.f0], [.int .i64 x.f1, .string x.f2, .int .i64 x.f3.f0, .int .i64 x.f3.f1, .int .i64 x.f3.f2, .string x.f3.f3, v7], rfl, rfl, ⟨[.int .i64 x.f1], [.string x.f2, .int .i64 x.f3.f0, .int .i64 x.f3.f1, .int .i64 x.f3.f2, .string x.f3.f3, v7], rfl, rfl, ⟨[.string x.f2], [.int .i64 x.f3.f0, .int .i64 x.f3.f1, .int .i64 x.f3.f2, .string x.f3.f3, v7], rfl, rfl, ⟨[.int .i64 x.f3.f0, .int .i64 x.f3.f1, .int .i64 x.f3.f2, .string x.f3.f3], [v7], rfl, (k40_mkM w base ok x.f3 ), ⟨v7, rfl, g7⟩⟩⟩⟩⟩
theorem k43_openF {W : World} {ok : Nat → Prop} {x : S43} {cs : List Value} (h : Kd.FK k43 W ok x cs) : ∃ A7 c7, cs = [.int .i64 x.f0, .int .i64 x.f1, .string x.f2, .int .i64 x.f3.f0, .int .i64 x.f3.f1, .int .i64 x.f3.f2, .string x.f3.f3, .slice A7 x.f4.length c7] ∧ x.f4.length ≤ c7 ∧ Kd.F k50 W ok A7 x.f4.length x.f4 := by
 obtain ⟨A7, c7, rfl, l7, _⟩ := k43_open (Kd.FK_now h)
 exact ⟨A7, c7, rfl, l7, (fun W' hW => by obtain ⟨A7_, c7_, he, l7_, g7_⟩ := k43_open (h W' hW); injection (Option.some.inj (show some (Value.slice A7 x.f4.length c7) = some (Value.slice A7_ x.f4.length c7_) from congrArg (fun l => l[7]?) he)) with ha_ _ _; rw [ha_]; exact g7_)⟩
def rd_T43 (xs : List S43) (i : Int) : S43 := xs.getD i.toNat z43
theorem at_T43 {w : World} {A : Option Addr} {n : Nat} {xs : List S43} (h : Kd.C k43 w A n xs) (i : Int) (h0 : 0 ≤ i) (h1 : i < n) : ∃ ad A7 c7, A = some ad ∧ w.cell? (ad.add (i.toNat * 8)) = some (.int .i64 (rd_T43 xs i).f0) ∧ w.cell? ⟨(ad.add (i.toNat * 8)).block, (ad.add (i.toNat * 8)).off + 1, none⟩ = some (.int .i64 (rd_T43 xs i).f1) ∧ w.cell? ⟨(ad.add (i.toNat * 8)).block, (ad.add (i.toNat * 8)).off + 2, none⟩ = some (.string (rd_T43 xs i).f2) ∧ w.cell? ⟨(ad.add (i.toNat * 8)).block, (ad.add (i.toNat * 8)).off + 3, none⟩ = some (.int .i64 (rd_T43 xs i).f3.f0) ∧ w.cell? ⟨(ad.add (i.toNat * 8)).block, (ad.add (i.toNat * 8)).off + 4, none⟩ = some (.int .i64 (rd_T43 xs i).f3.f1) ∧ w.cell? ⟨(ad.add (i.toNat * 8)).block, (ad.add (i.toNat * 8)).off + 5, none⟩ = some (.int .i64 (rd_T43 xs i).f3.f2) ∧ w.cell? ⟨(ad.add (i.toNat * 8)).block, (ad.add (i.toNat * 8)).off + 6, none⟩ = some (.string (rd_T43 xs i).f3.f3) ∧ w.cell? ⟨(ad.add (i.toNat * 8)).block, (ad.add (i.toNat * 8)).off + 7, none⟩ = some (.slice A7 (rd_T43 xs i).f4.length c7) ∧ (rd_T43 xs i).f4.length ≤ c7 ∧ k50.C w A7 (rd_T43 xs i).f4.length (rd_T43 xs i).f4 := by
 obtain ⟨ad, c, e, _, hK, hc0⟩ := Kd.C_get h z43 i h0 h1
 have hc : ∀ j u, c[j]? = some u → w.cell? (ad.add (i.toNat * 8 + j)) = some u := hc0
 obtain ⟨A7, c7, rfl, l7, g7⟩ := k43_open hK
 exact ⟨ad, A7, c7, e, hc 0 _ rfl, by rw [← add_field _ _ 1 (by omega)]; exact hc 1 _ rfl, by rw [← add_field _ _ 2 (by omega)]; exact hc 2 _ rfl, by rw [← add_field _ _ 3 (by omega)]; exact hc 3 _ rfl, by rw [← add_field _ _ 4 (by omega)]; exact hc 4 _ rfl, by rw [← add_field _ _ 5 (by omega)]; exact hc 5 _ rfl, by rw [← add_field _ _ 6 (by omega)]; exact hc 6 _ rfl, by rw [← add_field _ _ 7 (by omega)]; exact hc 7 _ rfl, l7, g7⟩
structure S83 where
 f0 : S46
 f1 : S46
 f2 : Int
 f3 : (List Int)
 f4 : (List (List Int))
def k83 : Kd S83 := Kd.iso (Kd.pair k46 (Kd.pair k46 (Kd.pair (Kd.int .i64) (Kd.pair (Kd.slice 3 (Kd.int .i64)) (Kd.slice 47 (Kd.slice 3 (Kd.int .i64))))))) (fun x : S83 => (x.f0, x.f1, x.f2, x.f3, x.f4))
theorem k83_mk (w : World) (x : S83) {A5 : Option Addr} {c5 : Nat} (l5 : x.f3.length ≤ c5) (g5 : (Kd.int .i64).C w A5 x.f3.length x.f3) {A6 : Option Addr} {c6 : Nat} (l6 : x.f4.length ≤ c6) (g6 : (Kd.slice 3 (Kd.int .i64)).C w A6 x.f4.length x.f4) : k83.K w x [.int .i64 x.f0.f0, .int .i64 x.f0.f1, .int .i64 x.f1.f0, .int .i64 x.f1.f1, .int .i64 x.f2, .slice A5 x.f3.length c5, .slice A6 x.f4.length c6] := ⟨[.int .i64 x.f0.f0, .int .i64 x.f0.f1], [.int .i64 x.f1.f0, .int .i64 x.f1.f1, .int .i64 x.f2, .slice A5 x.f3.length c5, .slice A6 x.f4.length c6], rfl, (k46_mk w x.f0 ), ⟨[.int .i64 x.f1.f0, .int .i64 x.f1.f1], [.int .i64 x.f2, .slice A5 x.f3.length c5, .slice A6 x.f4.length c6], rfl, (k46_mk w x.f1 ), ⟨[.int .i64 x.f2], [.slice A5 x.f3.length c5, .slice A6 x.f4.length c6], rfl, rfl, ⟨[.slice A5 x.f3.length c5], [.slice A6 x.f4.length c6], rfl, ⟨A5, c5, rfl, l5, g5⟩, ⟨A6, c6, rfl, l6, g6⟩⟩⟩⟩⟩
theorem k83_mkF (W : World) (ok : Nat → Prop) (x : S83) {A5 : Option Addr} {c5 : Nat} (l5 : x.f3.length ≤ c5) (g5 : Kd.F (Kd.int .i64) W ok A5 x.f3.length x.f3) {A6 : Option Addr} {c6 : Nat} (l6 : x.f4.length ≤ c6) (g6 : Kd.F (Kd.slice 3 (Kd.int .i64)) W ok A6 x.f4.length x.f4) : Kd.FK k83 W ok x [.int .i64 x.f0.f0, .int .i64 x.f0.f1, .int .i64 x.f1.f0, .int .i64 x.f1.f1, .int .i64 x.f2, .slice A5 x.f3.length c5, .slice A6 x.f4.length c6] := fun W2 hW => k83_mk W2 x l5 (g5 W2 hW) l6 (g6 W2 hW)
structure S69 where
 f0 : Int
 f1 : Int
 f2 : ByteArray
 f3 : S40
 f4 : (List S83)
def k69 : Kd S69 := Kd.iso (Kd.pair (Kd.int .i64) (Kd.pair (Kd.int .i64) (Kd.pair Kd.string (Kd.pair k40 (Kd.slice 83 k83))))) (fun x : S69 => (x.f0, x.f1, x.f2, x.f3, x.f4))
theorem k69_mk (w : World) (x : S69) {A7 : Option Addr} {c7 : Nat} (l7 : x.f4.length ≤ c7) (g7 : k83.C w A7 x.f4.length x.f4) : k69.K w x [.int .i64 x.f0, .int .i64 x.f1, .string x.f2, .int .i64 x.f3.f0, .int .i64 x.f3.f1, .int .i64 x.f3.f2, .string x.f3.f3, .slice A7 x.f4.length c7] := ⟨[.int .i64 x.f0], [.int .i64 x.f1, .string x.f2, .int .i64 x.f3.f0, .int .i64 x.f3.f1, .int .i64 x.f3.f2, .string x.f3.f3, .slice A7 x.f4.length c7], rfl, rfl, ⟨[.int .i64 x.f1], [.string x.f2, .int .i64 x.f3.f0, .int .i64 x.f3.f1, .int .i64 x.f3.f2, .string x.f3.f3, .slice A7 x.f4.length c7], rfl, rfl, ⟨[.string x.f2], [.int .i64 x.f3.f0, .int .i64 x.f3.f1, .int .i64 x.f3.f2, .string x.f3.f3, .slice A7 x.f4.length c7], rfl, rfl, ⟨[.int .i64 x.f3.f0, .int .i64 x.f3.f1, .int .i64 x.f3.f2, .string x.f3.f3], [.slice A7 x.f4.length c7], rfl, (k40_mk w x.f3 ), ⟨A7, c7, rfl, l7, g7⟩⟩⟩⟩⟩
theorem k69_mkF (W : World) (ok : Nat → Prop) (x : S69) {A7 : Option Addr} {c7 : Nat} (l7 : x.f4.length ≤ c7) (g7 : Kd.F k83 W ok A7 x.f4.length x.f4) : Kd.FK k69 W ok x [.int .i64 x.f0, .int .i64 x.f1, .string x.f2, .int .i64 x.f3.f0, .int .i64 x.f3.f1, .int .i64 x.f3.f2, .string x.f3.f3, .slice A7 x.f4.length c7] := fun W2 hW => k69_mk W2 x l7 (g7 W2 hW)
abbrev bA := @below_alloc
abbrev bD := @pw_below_drewN
abbrev b1 := @below_drew1
abbrev rA := @Kd.R_alloc
abbrev rD := @Kd.R_drewN
abbrev r1 := @Kd.R_drew
theorem aM {p : Prop} (h : p) : Aside0 p := ⟨h⟩
theorem bQ {P : Prop} (h : P := by repeat first|(with_reducible first|exact HB.out|apply bA|apply bD|apply b1|refine below_set ?_ (Aside0.out (by assumption)))|exact HB.out) : P := h
theorem sB {w W w1 : World} (hb : Below W.heap.size W w1) (h : Below w.heap.size w W := by exact bQ) : Aside0 (Below w.heap.size w w1) := ⟨below_step h hb⟩
theorem sG (w : World) {W : World} {g : Nat} (hg : g = W.heap.size) (h : Below w.heap.size w W := by exact bQ) : Aside0 (w.heap.size ≤ g) := ⟨by rw [hg]; exact below_size h⟩
section
variable {α β : Type} {d : Kd α} {d' : Kd β} {e e' base base' : Nat} {ok ok' : Nat → Prop} {w W w1 : World} {v u : Value} {xs : List α} {ys : List β}
theorem rK (h : Aside0 (d.R e w base ok v xs)) (hb : Below W.heap.size W w1) (c : d.R e w base ok v xs → d.R e W base ok v xs := by intro h; (with_reducible repeat first|apply rA|apply rD|apply r1); exact h) : Aside0 (d.R e w1 base ok v xs) := ⟨Kd.R_below (c h.out) hb⟩
theorem mQ (h : Aside0 (d.R e w base ok v xs)) (c : d.R e w base ok v xs → d.R e W base ok v xs := by intro h; (with_reducible repeat first|apply rA|apply rD|apply r1); exact h) : d.R e W base ok v xs := c h.out
theorem lK (h : d.R e w1 W.heap.size ok v xs) (b : Below w.heap.size w W := by exact bQ) : Aside0 (d.R e w1 w.heap.size ok v xs) := ⟨Kd.R_lower h (below_size b)⟩
theorem cQ {P : Prop} {A : Option Addr} {n c : Nat} (h : Aside0 (d.R e w base ok (.slice A n c) xs)) (p : d.C w A xs.length xs → P := by intro h; repeat (first | exact h | (with_reducible first|refine Kd.C_alloc ?_ _|refine Kd.C_drewN ?_ _|refine Kd.C_drew ?_))) : P := p (Kd.R_reads' h.out).2.2
end
section
variable {w W w1 : World} {g : Nat} {o : Obj}
theorem kK (h : Aside0 (w.heap[g]? = some o)) (hb : Below W.heap.size W w1) (c : w.heap[g]? = some o → W.heap[g]? = some o := by intro h; (with_reducible repeat (first | refine blk_drewN ?_ _ | refine blk_drew ?_ | refine blk_alloc ?_ _)); exact h) : Aside0 (w1.heap[g]? = some o) := ⟨blk_below (c h.out) hb⟩
theorem blk_is {o' : Obj} (h : w.heap[g]? = some o') (e : o' = o) : w.heap[g]? = some o := e ▸ h
theorem b4 {t : TypeId} {a b c d : Value} (h : Aside0 (w.heap[g]? = some (.cells #[a, b, c, d] t (0, 0)))) : w.cell? ⟨g, 0, none⟩ = some a ∧ w.cell? ⟨g, 1, none⟩ = some b ∧ w.cell? ⟨g, 2, none⟩ = some c ∧ w.cell? ⟨g, 3, none⟩ = some d ∧ w.frozen? ⟨g, 0, none⟩ = false ∧ w.frozen? ⟨g, 1, none⟩ = false ∧ w.frozen? ⟨g, 2, none⟩ = false ∧ w.frozen? ⟨g, 3, none⟩ = false := ⟨blk_cell h.out 0, blk_cell h.out 1, blk_cell h.out 2, blk_cell h.out 3, blk_frozen h.out 0, blk_frozen h.out 1, blk_frozen h.out 2, blk_frozen h.out 3⟩
end
theorem blk_far2 {w : World} {g g' i : Nat} {t : TypeId} {cs : Array Value} {u : Value} (h : w.heap[g]? = some (.cells cs t (0, 0))) (hp : Aside0 (g ≠ g')) : (w.setCell ⟨g', i, none⟩ u).heap[g]? = some (.cells cs t (0, 0)) := blk_far h hp.out u
theorem kQ {P : Prop} (h : P := by apply blk_is; (with_reducible repeat first | exact Aside0.out (by assumption) | assumption | apply blk_drewN | apply blk_drew | apply blk_alloc | apply blk_set | apply blk_far2); rfl) : P := h
section
variable {P : Program} {ops : Array Oper} {rest : List Oper} {oi : Oper} {a : Act} {Q : Exit → Act → World → Prop} {W : World}
theorem gC (f : FuncId) {xs : Array Operand} {ts : Array TypeId} (h : wpList P ops Q (oi :: rest) a W) (_ho : oi.op = .call { callee := .value (.func f), args := xs, argTypes := ts } := by exact rfl) : wpList P ops Q (oi :: rest) a W := h
theorem gD (N : Tmp) (h : wpList P ops Q (oi :: rest) a W) (_hN : oi.dst = some N := by exact rfl) : wpList P ops Q (oi :: rest) a W := h
theorem gL (N : Option Tmp) {f : FuncId} {fn : Func} {xs : Array Operand} {ts : Array TypeId} (hf : P.funcs[f]? = some fn) (args : Array Value) (h : Calls P f args W fun e w' => ∃ v, e = .returned v ∧ wpList P ops Q rest (a.put N v) w')
 (hd : oi.dst = N := by exact rfl) (hg : oi.guard = none := by exact rfl) (hname : (fn.name == "runtime.NumGoroutine") = false := by kernel_rfl) (hb : fn.body.isSome = true := by exact rfl) (hop : oi.op = .call { callee := .value (.func f), args := xs, argTypes := ts } := by exact rfl)
 (hargs : xs.map a.eval = args := by (try simp only [List.map_toArray, List.map_cons, List.map_nil]); first | done | rfl | (simp only [List.length_drop, List.length_take]; rfl)) : wpList P ops Q (oi :: rest) a W := goesL_ N hd hg hf hname hb args hop hargs h
theorem bE (N : Tmp) {cs : Array Value} {t : TypeId} (h : ∀ g, g = W.heap.size → ∀ w1, w1.heap[g]? = some (.cells cs t (0, 0)) → Below W.heap.size W w1 → wpList P ops Q rest (a.put oi.dst (.pointer (some ⟨g, 0, none⟩))) w1) (hgd : oi.guard = none := by exact rfl) (hd : oi.dst = some N := by exact rfl)
 (hrun : (execOp a.eval oi).run P W = .ok (.value (.pointer (some ⟨W.heap.size, 0, none⟩))) (W.alloc (.cells cs t (0, 0))) := by first | (go_simp; done) | (go_simp; rfl)) : wpList P ops Q (oi :: rest) a W := box_event hgd hd hrun h
end
theorem cB {P : Program} {f : FuncId} {args : Array Value} {w : World} {v : Value} {K : Value → World → Prop} (h : Calls P f args w fun e w' => e = .returned v ∧ Below w.heap.size w w') (k : ∀ w', Below w.heap.size w w' → K v w') : Calls P f args w fun e w' => ∃ v, e = .returned v ∧ K v w' := h.mono (by rintro e w' ⟨rfl, hb⟩; exact ⟨_, rfl, k _ hb⟩)
theorem vQ {P : Prop} (h : P := by first|rfl|(simp;done)|(simp [*];done)) : P := h
theorem hQ {P : Prop} (h : P := by first|with_reducible assumption|assumption) : P := h
theorem eQ {P : Prop} (h : P := by first | rfl | (simp [errW_none, errW_some] <;> rfl) | (simp [*, errW_none, errW_some] <;> rfl)) : P := h
theorem bS {α β : Type} {o : Option α} {f : α → Option β} {r : β} (h : o.bind f = some r) : ∃ x, Aside0 (o = some x) ∧ f x = some r := by
 obtain ⟨x, h1, h2⟩ := Option.bind_eq_some_iff.mp h
 exact ⟨x, ⟨h1⟩, h2⟩
section
variable {α : Type} {p : Prop} {_ : Decidable p} {x y z : α} {G : Prop}
theorem iD (H : (if p then x else y) = z) (h1 : x = z → decide p = true → G) (h2 : y = z → decide p = false → G) : G := by
 by_cases c : p
 ·exact h1 ((if_pos c).symm.trans H) (decide_eq_true c)
 ·exact h2 ((if_neg c).symm.trans H) (decide_eq_false c)
theorem iNc (H : (if p then x else y) = z) (h1 : x = z → p → G) (h2 : y = z → ¬ p → G) : G := by
 by_cases c : p
 ·exact h1 ((if_pos c).symm.trans H) c
 ·exact h2 ((if_neg c).symm.trans H) c
theorem iDc (H : (if p then x else y) = z) (h1 : x = z → decide p = true → p → G) (h2 : y = z → decide p = false → ¬ p → G) : G := by
 by_cases c : p
 ·exact h1 ((if_pos c).symm.trans H) (decide_eq_true c) c
 ·exact h2 ((if_neg c).symm.trans H) (decide_eq_false c) c
theorem iEc {β : Type} [BEq β] [LawfulBEq β] {a b : β} {_ : Decidable (a = b)} (H : (if a = b then x else y) = z) (h1 : x = z → (a == b) = true → (a != b) = false → a = b → G) (h2 : y = z → (a == b) = false → (a != b) = true → ¬ a = b → G) : G := by
 by_cases c : a = b
 ·exact h1 ((if_pos c).symm.trans H) (beq_iff_eq.mpr c) (bne_eq_false_iff_eq.mpr c) c
 ·exact h2 ((if_neg c).symm.trans H) (beq_eq_false_iff_ne.mpr c) (bne_iff_ne.mpr c) c
end
end Go.Proofs.YtjplnhdplpiogaaGreatDoor.M
end
section
namespace Go.Proofs.YtjplnhdplpiogaaGreatDoor.M
open Go.RowKit Go.Proofs.YtjplnhdplpiogaaGreatDoorW.PrintWords
set_option linter.unusedVariables false
theorem tab_below {P : Program} {n : String} {g : Nat} {k : IntKind} {zs : List Int} {w w' : World} (hg : P.globalNamed n = some g) (h : Lib.TabIs P w n k zs) (hb : Below w.heap.size w w') : Lib.TabIs P w' n k zs := by
 unfold Lib.TabIs World.var? at h ⊢
 rw [hg] at h ⊢
 simp only [Option.bind_some] at h ⊢
 have hlt : g < w.heap.size := by
  rcases Nat.lt_or_ge g w.heap.size with h' | h'
  ·exact h'
  ·rw [Array.getElem?_eq_none h'] at h; cases h
 rw [hb.block g hlt]
 exact h
/-- strconv.ErrRange holds a pointer to an errors.errorString; internal/bytealg.MaxLen holds some int. -/
structure GW (w : World) : Prop where
 range : ∃ a, w.cell? ⟨0, 0, none⟩ = some (.iface 208 (.pointer (some a)))
 syn : ∃ a, w.cell? ⟨2, 0, none⟩ = some (.iface 208 (.pointer (some a)))
 max : ∃ m : Int, w.cell? ⟨1, 0, none⟩ = some (.int .i64 m)
 pow : Lib.TabIs Tryz.prog w "internal/strconv.uint64pow10" .u64 Lib.pow10Tab
theorem GW.below {w w1 : World} (hb : Below w.heap.size w w1) (h : GW w) : GW w1 where
 range := h.range.imp fun _ e => pw_cell_below hb e
 syn := h.syn.imp fun _ e => pw_cell_below hb e
 max := h.max.imp fun _ e => pw_cell_below hb e
 pow := tab_below (g := 5) (by kernel_rfl) h.pow hb
theorem gQ {w W : World} (hg : GW w) (h : Below w.heap.size w W := by exact bQ) : GW W := GW.below h hg
end Go.Proofs.YtjplnhdplpiogaaGreatDoor.M
end
section
namespace Go.Proofs.YtjplnhdplpiogaaGreatDoor.M
open Go.RowKit Go.Proofs.YtjplnhdplpiogaaGreatDoorW.PrintWords Go.Proofs.YtjplnhdplpiogaaGreatDoorW.PrintLast Go.Proofs.YtjplnhdplpiogaaGreatDoorW.PrintMore
set_option linter.unusedVariables false
set_option linter.unusedSimpArgs false
/-- An error as a panic's chain. -/
def wrongE (at' e : Int) (r : Bool) : PanicEntry := { v := .iface 60 (.agg #[.int .i64 at', .int .i64 e]), recovered := r }
theorem fail_calls (a e : Int) (w : World) : Calls Tryz.prog 33 #[.int .i64 a, .int .i64 e] w fun x w' => x = .panicked [wrongE a e false] ∧ Below w.heap.size w w' := by
 have hu60 := Tryz.underlying60
 go_enter Tryz.func33, Tryz.ntmps33
 go_wp2
 refine ⟨rfl, rfl, ?_⟩
 repeat first | exact Below.refl _ _ | apply below_alloc | apply pw_below_drewN | apply below_drew1
/-- A token, as cells. -/
abbrev tok4 (t : S40) : Array Value := #[.int .i64 t.f0, .int .i64 t.f1, .int .i64 t.f2, .string t.f3]
/-- The parser's block. -/
structure St (w0 w : World) (g : Nat) (A : Option Addr) (c : Nat) (L : List S40) (i e : Int) (ov iv : Value) : Prop where
 below : Below w0.heap.size w0 w
 ge : w0.heap.size ≤ g
 blk : w.heap[g]? = some (.cells #[.slice A L.length c, .int .i64 i, .int .i64 e, ov, iv] 58 (0, 0))
theorem b5 {w : World} {g : Nat} {t : TypeId} {a b c d e : Value} (h : w.heap[g]? = some (.cells #[a, b, c, d, e] t (0, 0))) : w.cell? ⟨g, 0, none⟩ = some a ∧ w.cell? ⟨g, 1, none⟩ = some b ∧ w.cell? ⟨g, 2, none⟩ = some c ∧ w.cell? ⟨g, 3, none⟩ = some d ∧ w.cell? ⟨g, 4, none⟩ = some e ∧ w.frozen? ⟨g, 0, none⟩ = false ∧ w.frozen? ⟨g, 1, none⟩ = false ∧ w.frozen? ⟨g, 2, none⟩ = false ∧ w.frozen? ⟨g, 3, none⟩ = false ∧ w.frozen? ⟨g, 4, none⟩ = false := ⟨blk_cell h 0, blk_cell h 1, blk_cell h 2, blk_cell h 3, blk_cell h 4, blk_frozen h 0, blk_frozen h 1, blk_frozen h 2, blk_frozen h 3, blk_frozen h 4⟩
theorem al_cell {w1 : World} (o : Obj) {a : Addr} {v : Value} (h : w1.cell? a = some v) (n : Nat) : ((w1.drewN n).alloc o).cell? a = some v := (World.cell?_alloc_lt (w1.drewN n) o a (World.block_lt_of_cell? _ _ h)).trans h
theorem al_new (w1 : World) (cs : Array Value) (t : TypeId) (k : Nat) {v : Value} (h : cs[k]? = some v) (n : Nat) : ((w1.drewN n).alloc (.cells cs t)).cell? ⟨w1.heap.size, k, none⟩ = some v := (blk_cell (blk_new (w1.drewN n) (.cells cs t)) k).trans h
theorem al_fz (w1 : World) (cs : Array Value) (t : TypeId) (k : Nat) (n : Nat) : ((w1.drewN n).alloc (.cells cs t)).frozen? ⟨w1.heap.size, k, none⟩ = false := blk_frozen (blk_new (w1.drewN n) (.cells cs t)) k
theorem norm_w {G : World → Prop} {W : World} (F : World → Prop) (hF : F W) (h : ∀ W', F W' → G W') : G W := h W hF
theorem blk_newN (w : World) (n : Nat) (o : Obj) : ((w.drewN n).alloc o).heap[w.heap.size]? = some o := blk_new _ _
theorem kQ3 {P : Prop} (h : P := by apply blk_is; (with_reducible repeat first | exact Aside0.out (by assumption) | assumption | exact blk_newN _ _ _ | apply blk_drewN | apply blk_drew | apply blk_alloc | apply blk_set | apply blk_far2); rfl) : P := h
theorem kpQ {P : Prop} (h : P := by repeat first | (with_reducible first | exact HK.out | apply KeepBut.set_ | apply keep_drewN | apply keep_drew | apply keep_alloc | refine keep_far ?_ (Aside0.out (by assumption)) _) | exact HK.out) : P := h
abbrev zT : Array Value := #[.int .i64 0, .int .i64 0, .int .i64 0, .string (⟨#[]⟩ : ByteArray)]
section
variable {w0 w : World} {g : Nat} {A : Option Addr} {c : Nat} {L : List S40} {i e : Int} {ov iv : Value}
theorem peek_some (hC : Kd.C k40 w0 A L.length L) (hS : St w0 w g A c L i e ov iv) (h0 : 0 ≤ i) (hn : i < L.length) :
  Calls Tryz.prog 83 #[.pointer (some ⟨g, 0, none⟩)] w fun x w' => x = .returned (.agg (tok4 (rd_T40 L i))) ∧ Below w.heap.size w w' := by
 have hu40 := Tryz.underlying40
 have hu58 := Tryz.underlying58
 have hc : decide (i < (L.length : Int)) = true := decide_eq_true hn
 have hc2 : decide ((L.length : Int) ≤ i) = false := decide_eq_false (by omega)
 obtain ⟨ad, rfl, x0, x1, x2, x3⟩ := at_T40 (Kd.C_below hC hS.below) i h0 hn
 have HS := Aside0.mk hS
 clear hS
 have HB := Aside0.mk (Below.refl w.heap.size w)
 go_enter Tryz.func83, Tryz.ntmps83
 go_wp2_with (first | ((with_reducible refine gD 2 ?_); refine bE 2 (cs := #[.int .i64 0, .int .i64 0, .int .i64 0, .string (⟨#[]⟩ : ByteArray)]) (t := 40) ?_; intro gb hg w1 hbox hb; have BK := aM hbox; have BG := aM (blk_below HS.out.blk hb); have hne := aM (show g ≠ gb by rw [hg]; exact Nat.ne_of_lt (blk_lt HS.out.blk)); have GE := sG w hg; replace HB := aM hb; replace x0 := pw_cell_below hb x0; replace x1 := pw_cell_below hb x1; replace x2 := pw_cell_below hb x2; replace x3 := pw_cell_below hb x3; clear hb hbox hg; obtain ⟨h1, h2, h3, h4, h5, f1, f2, f3, f4, f5⟩ := b5 BG.out; obtain ⟨k1, k2, k3, k4, m1, m2, m3, m4⟩ := b4 BK; have hq := hne.out; have hq' := Ne.symm hne.out))
 go_quiet (fail)
 try go_wp2_with (fail)
 have p9 := eq_true h0
 have q9 := eq_true hn
 go_region
 try go_wp2_with (fail)
 refine bodyPost_ret (results_cell_row rfl _ _ gb 40 (tok4 (rd_T40 L i)) (0, 0) _ rfl kQ Tryz.underlying40 rfl (by kernel_rfl)) rfl ?_
 exact ⟨rfl, bQ⟩
theorem take_ok (hC : Kd.C k40 w0 A L.length L) (hS : St w0 w g A c L i e ov iv) (h0 : 0 ≤ i) (hn : i < L.length) (kind : Int) (hk : kind = (rd_T40 L i).f0) :
  Calls Tryz.prog 148 #[.pointer (some ⟨g, 0, none⟩), .int .i64 kind] w fun x w' => x = .returned (.agg (tok4 (rd_T40 L i))) ∧ St w0 w' g A c L (i + 1) e ov iv ∧ KeepBut w w' g none := by
 have hu40 := Tryz.underlying40
 have hu58 := Tryz.underlying58
 have hc : decide (i < (L.length : Int)) = true := decide_eq_true hn
 have hc2 : decide ((L.length : Int) ≤ i) = false := decide_eq_false (by omega)
 subst hk
 have hL : (L.length : Int) ≤ 9223372036854775807 := by have := Kd.C_max hC; omega
 have hw : wrap64 (i + 1) = i + 1 := by unfold wrap64; omega
 obtain ⟨ad, rfl, x0, x1, x2, x3⟩ := at_T40 (Kd.C_below hC hS.below) i h0 hn
 have HS := Aside0.mk hS
 clear hS
 have HB := Aside0.mk (Below.refl w.heap.size w)
 go_enter Tryz.func148, Tryz.ntmps148
 go_wp2_with (first | ((with_reducible refine gD 4 ?_); refine bE 4 (cs := #[.int .i64 0, .int .i64 0, .int .i64 0, .string (⟨#[]⟩ : ByteArray)]) (t := 40) ?_; intro gb hg w1 hbox hb; have BK := aM hbox; have BG := aM (blk_below HS.out.blk hb); have hne := aM (show g ≠ gb by rw [hg]; exact Nat.ne_of_lt (blk_lt HS.out.blk)); have hne' := aM (Ne.symm hne.out); have GE := sG w hg; replace HB := aM hb; replace x0 := pw_cell_below hb x0; replace x1 := pw_cell_below hb x1; replace x2 := pw_cell_below hb x2; replace x3 := pw_cell_below hb x3; clear hb hbox hg; obtain ⟨h1, h2, h3, h4, h5, f1, f2, f3, f4, f5⟩ := b5 BG.out; obtain ⟨k1, k2, k3, k4, m1, m2, m3, m4⟩ := b4 BK; have hq := hne.out; have hq' := hne'.out))
 go_quiet (fail)
 try go_wp2_with (fail)
 have p9 := eq_true h0
 have q9 := eq_true hn
 have a1 := al_cell (.cells #[.int .i64 0, .int .i64 0, .int .i64 0, .string (⟨#[]⟩ : ByteArray)] 40) h1
 have a2 := al_cell (.cells #[.int .i64 0, .int .i64 0, .int .i64 0, .string (⟨#[]⟩ : ByteArray)] 40) h2
 have y0 := al_cell (.cells #[.int .i64 0, .int .i64 0, .int .i64 0, .string (⟨#[]⟩ : ByteArray)] 40) x0
 have y1 := al_cell (.cells #[.int .i64 0, .int .i64 0, .int .i64 0, .string (⟨#[]⟩ : ByteArray)] 40) x1
 have y2 := al_cell (.cells #[.int .i64 0, .int .i64 0, .int .i64 0, .string (⟨#[]⟩ : ByteArray)] 40) x2
 have y3 := al_cell (.cells #[.int .i64 0, .int .i64 0, .int .i64 0, .string (⟨#[]⟩ : ByteArray)] 40) x3
 have n0 := al_new w1 #[.int .i64 0, .int .i64 0, .int .i64 0, .string (⟨#[]⟩ : ByteArray)] 40 0 rfl
 have n1 := al_new w1 #[.int .i64 0, .int .i64 0, .int .i64 0, .string (⟨#[]⟩ : ByteArray)] 40 1 rfl
 have n2 := al_new w1 #[.int .i64 0, .int .i64 0, .int .i64 0, .string (⟨#[]⟩ : ByteArray)] 40 2 rfl
 have n3 := al_new w1 #[.int .i64 0, .int .i64 0, .int .i64 0, .string (⟨#[]⟩ : ByteArray)] 40 3 rfl
 have z0 := al_fz w1 #[.int .i64 0, .int .i64 0, .int .i64 0, .string (⟨#[]⟩ : ByteArray)] 40
 have GE1 := aM (below_size HB.out)
 have hne1 := aM (Nat.ne_of_lt (blk_lt BG.out))
 have hne2 := aM (Nat.ne_of_lt (blk_lt BK.out))
 go_region
 refine norm_w (F := fun W => W.heap[g]? = some (.cells #[.slice (some ad) L.length c, .int .i64 i, .int .i64 e, ov, iv] 58 (0, 0)) ∧ W.heap[gb]? = some (.cells zT 40 (0, 0)) ∧ W.heap[w1.heap.size]? = some (.cells (tok4 (rd_T40 L i)) 40 (0, 0)) ∧ Below w.heap.size w W) ⟨?_, ?_, ?_, ?_⟩ ?_
 ·exact kQ
 ·exact kQ
 ·exact kQ3
 ·exact bQ
 rintro w2 ⟨BG2, BK2, BT2, hb2⟩
 have HB0 := aM (below_step HS.out.below hb2)
 have HK := aM (KeepBut.of_below hb2 g none)
 have GEg := aM HS.out.ge
 have GE0 := aM (Nat.le_trans HS.out.below.size GE.out)
 obtain ⟨h1, h2, h3, h4, h5, f1, f2, f3, f4, f5⟩ := b5 BG2
 obtain ⟨k1, k2, k3, k4, m1, m2, m3, m4⟩ := b4 (aM BK2)
 obtain ⟨t1, t2, t3, t4, u1, u2, u3, u4⟩ := b4 (aM BT2)
 have hq1 := hne1.out
 have hq2 := hne2.out
 have hq3 := Ne.symm hne1.out
 have hq4 := Ne.symm hne2.out
 have BK2 := aM BK2
 have BG2 := aM BG2
 clear HB BK BG
 go_wp2_with (fail)
 refine bodyPost_ret (results_cell_row rfl _ _ gb 40 (tok4 (rd_T40 L i)) (0, 0) _ rfl kQ Tryz.underlying40 rfl (by kernel_rfl)) rfl ?_
 exact ⟨rfl, ⟨(by have HB := HB0; exact bQ), HS.out.ge, kQ⟩, kpQ⟩
end
end Go.Proofs.YtjplnhdplpiogaaGreatDoor.M
end
section
/- Laid by this session's program hbprint.py out of the translation: the function hornbook/hex.Val and its contract. -/
namespace Go.Proofs.YtjplnhdplpiogaaGreatDoor.M
open Go.RowKit Go.Proofs.YtjplnhdplpiogaaGreatDoorW.PrintWords Go.Proofs.YtjplnhdplpiogaaGreatDoorW.PrintLast Go.Proofs.YtjplnhdplpiogaaGreatDoorW.PrintMore
attribute [local go_sem] max2_int min2_int max_two min_two max_three min_three max_four min_four
set_option linter.unusedVariables false
set_option linter.unusedSimpArgs false
mutual
def hex_Val.j0 : Nat → List Int → Bool → Option (Int × Int × Bool)
 | 0, _, _ => none
 | k + 1, x0, x14 => if x14 = true then (some (0, 0, false)) else (hex_Val.l0 k x0 (x0.length : Int) 0 (x0.length : Int) 0)
def hex_Val.l0 : Nat → List Int → Int → Int → Int → Int → Option (Int × Int × Bool)
 | 0, _, _, _, _, _ => none
 | k + 1, x19, x20, x21, x107000, x107001 => if x21 < x20 then (if 0 ≤ x21 then (if x21 < (x19.length : Int) then (hex_Val.l0 k x19 x20 (wrap64 (x21 + 1)) x107000 (Go.bits .or .i64 (wrap64 (x107001 * 256)) (wrap64 (rd x19 x21)))) else (none)) else (none)) else (some (x107000, x107001, true))
end
def hex_Val.f (k : Nat) (l0 : List Int) : Option (Int × Int × Bool) := if (l0.length : Int) < 1 then (hex_Val.j0 k l0 true) else (hex_Val.j0 k l0 (decide ((l0.length : Int) > 4)))
set_option maxHeartbeats 8000000 in
set_option maxRecDepth 100000 in
theorem hex_Val.calls (k : Nat) (A0 : Option Addr) (c0 : Nat) (l0 : List Int) (r1 : Int) (r2 : Int) (r3 : Bool) (w : World) (hr0 : Kd.C (Kd.int .u8) w A0 l0.length l0) (hc0 : l0.length ≤ c0) (h : hex_Val.f k l0 = some (r1, r2, r3)) :
  Calls Tryz.prog 161 #[.slice A0 l0.length c0] w fun e w' => e = .returned (.tuple #[.agg #[.int .i64 r1, .int .i64 r2], .bool r3]) ∧ Below w.heap.size w w' := by
 have hu46 := Tryz.underlying46
 have HR0 := aM hr0
 have HC0 := aM hc0
 clear hr0 hc0
 have HB := aM (Below.refl w.heap.size w)
 have H : (if (l0.length : Int) < 1 then (hex_Val.j0 k l0 true) else (hex_Val.j0 k l0 (decide ((l0.length : Int) > 4)))) = some (r1, r2, r3) := h
 clear h
 have HC2 := aM H
 clear H
 go_enter Tryz.func161, Tryz.ntmps161
 go_upto_region 1 with (first | ((with_reducible refine gD 2 ?_); (try (refine gate_guard (by rfl) ?_; dsimp only)); refine bE 2 (cs := #[.int .i64 0, .int .i64 0]) (t := 46) ?_; intro gb105 hg w3 hbox hb; have BK105 := aM hbox; have GW105 := sG w hg; have GE105 := sG w hg; replace HB := sB hb; clear hb hbox hg))
 (try simp only [Act.put, List.setIfInBounds_toArray, List.set_cons_zero, List.set_cons_succ])
 go_cut [14] (fun v14 wc => ∃ (kq : Nat) (x14_1 : Bool), v14 = .bool x14_1 ∧ Aside0 (hex_Val.j0 kq l0 x14_1 = some (r1, r2, r3)) ∧ Aside0 (kq ≤ k) ∧ Aside0 (wc.heap[gb105]? = some (.cells #[.int .i64 0, .int .i64 0] 46 (0, 0))) ∧ Aside0 (Below w.heap.size w wc))
 case first =>
  have H := HC2.out
  clear HC2
  refine iDc H ?_ ?_<;>clear H<;>intro H c4b0 c4
  ·have c4b1 : decide (l0.length < 1) = true := decide_eq_true (by omega)
   clear c4
   (first | rw [c4b0] | (simp only [i64_w, i32_w]; rw [c4b0]) | skip)
   have H' := aM H
   clear H
   go_wp2
   go_meet
   case rel => exact ⟨_, (true), vQ, H', ⟨by first | omega | exact Nat.le_refl _⟩, ⟨kQ⟩, ⟨bQ⟩⟩
  have c4b1 : decide (l0.length < 1) = false := decide_eq_false (by omega)
  clear c4
  (first | rw [c4b0] | (simp only [i64_w, i32_w]; rw [c4b0]) | skip)
  have H' := aM H
  clear H
  go_wp2
  go_meet
  case rel => exact ⟨_, (decide ((l0.length : Int) > 4)), vQ, H', ⟨by first | omega | exact Nat.le_refl _⟩, ⟨kQ⟩, ⟨bQ⟩⟩
 case rest =>
  clear HC2
  try clear c1
  try clear p2
  try clear c4
  try clear c4b0
  try clear c4b1
  obtain ⟨kq, x14_1, rfl, HA, HJ1, BK105, HB⟩ := hcut
  cases kq with
  | zero => exact absurd HA.out (by simp [hex_Val.j0])
  | succ kj1 =>
   have H := HA.out
   clear HA
   simp only [hex_Val.j0] at H
   by_cases c5 : x14_1 = true
   ·subst c5
    rw [if_pos rfl] at H
    simp only [Option.some.injEq, Prod.mk.injEq] at H
    obtain ⟨rfl, rfl, rfl⟩ := H
    have hcz6_0 : wc.cell? ⟨gb105, 0, none⟩ = some (.int .i64 0) := (blk_cell BK105.out 0).trans rfl
    have hcz6_1 : wc.cell? ⟨gb105, 1, none⟩ = some (.int .i64 0) := (blk_cell BK105.out 1).trans rfl
    have hfz6_0 := blk_frozen BK105.out 0
    have hfz6_1 := blk_frozen BK105.out 1
    go_wp2
    refine bodyPost_ret (results_ct rfl _ _ gb105 46 #[.int .i64 0, .int .i64 0] (0, 0) _ rfl kQ Tryz.underlying46 rfl (by kernel_rfl)) rfl ?_
    exact ⟨eQ, bQ⟩
   replace c5 := Bool.eq_false_iff.mpr c5
   subst c5
   rw [if_neg (show ¬ (false = true) by decide)] at H
   have H' := aM H
   clear H
   go_wp2_with (first | ((with_reducible refine gD 4 ?_); (try (refine gate_guard (by rfl) ?_; dsimp only)); refine bE 4 (cs := #[.int .i64 0, .int .i64 0]) (t := 46) ?_; intro gb106 hg w7 hbox hb; have BK106 := aM hbox; have GW106 := sG w hg; have GE106 := sG w hg; replace HB := sB hb; have NB105_106 := aM ((by rw [hg]; exact Nat.ne_of_lt (blk_lt (g := gb105) (o := .cells #[.int .i64 0, .int .i64 0] 46 (0, 0)) kQ) : gb105 ≠ gb106)); have NB106_105 := aM ((by rw [hg]; exact Nat.ne_of_gt (blk_lt (g := gb105) (o := .cells #[.int .i64 0, .int .i64 0] 46 (0, 0)) kQ) : gb106 ≠ gb105)); replace BK105 := kK BK105 hb; clear hb hbox hg; have hnb8 := NB106_105.out; have hnc8 := NB105_106.out; have hcz9_0 : w7.cell? ⟨gb106, 0, none⟩ = some (.int .i64 0) := (blk_cell BK106.out 0).trans rfl; have hcz9_1 : w7.cell? ⟨gb106, 1, none⟩ = some (.int .i64 0) := (blk_cell BK106.out 1).trans rfl; have hfz9_0 := blk_frozen BK106.out 0; have hfz9_1 := blk_frozen BK106.out 1))
   go_loopg [21] kj1 (fun kq v21 w' => ∃ (x21_2 : Int) (x107001_2 : Int), v21 = .int .i64 x21_2 ∧ Aside0 (hex_Val.l0 kq l0 (l0.length : Int) x21_2 (l0.length : Int) x107001_2 = some (r1, r2, r3)) ∧ Aside0 (kq ≤ kj1) ∧ Aside0 (w'.heap[gb105]? = some (.cells #[.int .i64 0, .int .i64 0] 46 (0, 0))) ∧ Aside0 (w'.heap[gb106]? = some (.cells #[.int .i64 (l0.length : Int), .int .i64 x107001_2] 46 (0, 0))) ∧ Aside0 (Below w.heap.size w w'))
   case atStart => exact ⟨(0), (0), vQ, H', ⟨Nat.le_refl _⟩, ⟨kQ⟩, ⟨kQ⟩, ⟨bQ⟩⟩
   case round =>
    clear H'
    try clear c1
    try clear p2
    try clear c4
    try clear c4b0
    try clear c4b1
    try clear c5
    try clear c8
    try clear hcz6_0
    try clear hcz6_1
    try clear hcz9_0
    try clear hcz9_1
    try clear hfz6_0
    try clear hfz6_1
    try clear hfz9_0
    try clear hfz9_1
    try clear p2
    obtain ⟨x21_2, x107001_2, rfl, HA, HK2, BK105, BK106, HB⟩ := hrel
    cases gk with
    | zero => exact absurd HA.out (by simp [hex_Val.l0])
    | succ k2 =>
     have H := HA.out
     clear HA
     simp only [hex_Val.l0] at H
     refine iD H ?_ ?_<;>clear H<;>intro H c10b0
     rotate_left
     ·simp only [Option.some.injEq, Prod.mk.injEq] at H
      obtain ⟨rfl, rfl, rfl⟩ := H
      have hnb15 := NB106_105.out
      have hnc15 := NB105_106.out
      have hcz16_0 : wr.cell? ⟨gb106, 0, none⟩ = some (.int .i64 (l0.length : Int)) := (blk_cell BK106.out 0).trans rfl
      have hcz16_1 : wr.cell? ⟨gb106, 1, none⟩ = some (.int .i64 x107001_2) := (blk_cell BK106.out 1).trans rfl
      have hfz16_0 := blk_frozen BK106.out 0
      have hfz16_1 := blk_frozen BK106.out 1
      have hcz17_0 : wr.cell? ⟨gb105, 0, none⟩ = some (.int .i64 0) := (blk_cell BK105.out 0).trans rfl
      have hcz17_1 : wr.cell? ⟨gb105, 1, none⟩ = some (.int .i64 0) := (blk_cell BK105.out 1).trans rfl
      have hfz17_0 := blk_frozen BK105.out 0
      have hfz17_1 := blk_frozen BK105.out 1
      go_wp2
      refine bodyPost_ret (results_ct rfl _ _ gb105 46 #[.int .i64 (l0.length : Int), .int .i64 x107001_2] (0, 0) _ rfl kQ Tryz.underlying46 rfl (by kernel_rfl)) rfl ?_
      exact ⟨eQ, bQ⟩
     refine iD H ?_ ?_<;>clear H<;>intro H c11b0
     rotate_left
     ·exact absurd H (by simp)
     refine iD H ?_ ?_<;>clear H<;>intro H c12b0
     rotate_left
     ·exact absurd H (by simp)
     have H' := aM H
     clear H
     have p107 : 0 ≤ (x21_2 : Int) := of_decide_eq_true hQ
     have q107 : x21_2 < (l0.length : Int) := of_decide_eq_true hQ
     obtain ⟨ad107, e107, hx107_0⟩ := Kd.at_int HR0.out x21_2 p107 q107
     cases e107
     replace hx107_0 := (HB.out.cell (World.block_lt_of_cell? w _ hx107_0)).trans hx107_0
     replace p107 := eq_true p107
     replace q107 := eq_true q107
     have hnb13 := NB106_105.out
     have hnc13 := NB105_106.out
     have hcz14_0 : wr.cell? ⟨gb106, 0, none⟩ = some (.int .i64 (l0.length : Int)) := (blk_cell BK106.out 0).trans rfl
     have hcz14_1 : wr.cell? ⟨gb106, 1, none⟩ = some (.int .i64 x107001_2) := (blk_cell BK106.out 1).trans rfl
     have hfz14_0 := blk_frozen BK106.out 0
     have hfz14_1 := blk_frozen BK106.out 1
     go_wp2
     go_roundg k2
     case measure => have := HJ1.out; have := HK2.out; omega
     case rel => exact ⟨(wrap64 (x21_2 + 1)), (Go.bits .or .i64 (wrap64 (x107001_2 * 256)) (wrap64 (rd l0 x21_2))), vQ, H', ⟨by have := HJ1.out; have := HK2.out; omega⟩, ⟨kQ⟩, ⟨kQ⟩, ⟨bQ⟩⟩
end Go.Proofs.YtjplnhdplpiogaaGreatDoor.M
end
section
namespace Go.Proofs.YtjplnhdplpiogaaGreatDoor.M
open Go.RowKit Go.Proofs.YtjplnhdplpiogaaGreatDoorW.PrintWords Go.Proofs.YtjplnhdplpiogaaGreatDoorW.PrintLast Go.Proofs.YtjplnhdplpiogaaGreatDoorW.PrintMore
attribute [local go_sem] max2_int min2_int max_two min_two max_three min_three max_four min_four
set_option linter.unusedVariables false
set_option linter.unusedSimpArgs false
def syn_value.f (a0_0 : Int) (a0_1 : Int) (a0_2 : Int) (a0_3 : ByteArray) : Option (Bool) := if a0_0 = 1 then (some true) else (if a0_0 = 2 then (some true) else (some (a0_0 == 5)))
set_option maxHeartbeats 8000000 in
set_option maxRecDepth 100000 in
theorem syn_value.calls (a0_0 : Int) (a0_1 : Int) (a0_2 : Int) (a0_3 : ByteArray) (r : Bool) (w : World) (h : syn_value.f a0_0 a0_1 a0_2 a0_3 = some r) :
  Calls Tryz.prog 56 #[.agg #[.int .i64 a0_0, .int .i64 a0_1, .int .i64 a0_2, .string a0_3]] w fun e w' => e = .returned (.bool r) ∧ Below w.heap.size w w' := by
 have hu40 := Tryz.underlying40
 have HB := aM (Below.refl w.heap.size w)
 have H : (if a0_0 = 1 then (some true) else (if a0_0 = 2 then (some true) else (some (a0_0 == 5)))) = some r := h
 clear h
 refine iEc H ?_ ?_<;>clear H<;>intro H c2b0 c2b1 c2
 ·clear c2
  obtain rfl := Option.some.inj H
  go_enter Tryz.func56, Tryz.ntmps56
  go_wp2_with (first | ((with_reducible refine gD 1 ?_); refine bE 1 (cs := #[.int .i64 a0_0, .int .i64 a0_1, .int .i64 a0_2, .string a0_3]) (t := 40) ?_; intro gb101 hg w3 hbox hb; have BK101 := aM hbox; have GW101 := sG w hg; have GE101 := sG w hg; replace HB := sB hb; clear hb hbox hg; obtain ⟨hcz4_0, hcz4_1, hcz4_2, hcz4_3, hfz4_0, hfz4_1, hfz4_2, hfz4_3⟩ := b4 BK101))
  go_ret
  exact ⟨eQ, bQ⟩
 refine iEc H ?_ ?_<;>clear H<;>intro H c5b0 c5b1 c5
 rotate_left
 ·obtain rfl := Option.some.inj H
  go_enter Tryz.func56, Tryz.ntmps56
  go_wp2_with (first | ((with_reducible refine gD 1 ?_); refine bE 1 (cs := #[.int .i64 a0_0, .int .i64 a0_1, .int .i64 a0_2, .string a0_3]) (t := 40) ?_; intro gb101 hg w8 hbox hb; have BK101 := aM hbox; have GW101 := sG w hg; have GE101 := sG w hg; replace HB := sB hb; clear hb hbox hg; obtain ⟨hcz9_0, hcz9_1, hcz9_2, hcz9_3, hfz9_0, hfz9_1, hfz9_2, hfz9_3⟩ := b4 BK101))
  go_ret
  exact ⟨eQ, bQ⟩
 clear c5
 obtain rfl := Option.some.inj H
 go_enter Tryz.func56, Tryz.ntmps56
 go_wp2_with (first | ((with_reducible refine gD 1 ?_); refine bE 1 (cs := #[.int .i64 a0_0, .int .i64 a0_1, .int .i64 a0_2, .string a0_3]) (t := 40) ?_; intro gb101 hg w6 hbox hb; have BK101 := aM hbox; have GW101 := sG w hg; have GE101 := sG w hg; replace HB := sB hb; clear hb hbox hg; obtain ⟨hcz7_0, hcz7_1, hcz7_2, hcz7_3, hfz7_0, hfz7_1, hfz7_2, hfz7_3⟩ := b4 BK101))
 go_ret
 exact ⟨eQ, bQ⟩
end Go.Proofs.YtjplnhdplpiogaaGreatDoor.M
end
section
namespace Go.Proofs.YtjplnhdplpiogaaGreatDoor.M
open Go.RowKit Go.Proofs.YtjplnhdplpiogaaGreatDoorW.PrintWords Go.Proofs.YtjplnhdplpiogaaGreatDoorW.PrintLast Go.Proofs.YtjplnhdplpiogaaGreatDoorW.PrintMore
set_option linter.unusedVariables false
set_option linter.unusedSimpArgs false
set_option maxRecDepth 100000
set_option maxHeartbeats 8000000
theorem b2 {w : World} {g : Nat} {t : TypeId} {x0 x1 : Value} (h : Aside0 (w.heap[g]? = some (.cells #[x0, x1] t (0, 0)))) : w.cell? ⟨g, 0, none⟩ = some x0 ∧ w.cell? ⟨g, 1, none⟩ = some x1 ∧ w.frozen? ⟨g, 0, none⟩ = false ∧ w.frozen? ⟨g, 1, none⟩ = false := ⟨blk_cell h.out 0, blk_cell h.out 1, blk_frozen h.out 0, blk_frozen h.out 1⟩
theorem b7 {w : World} {g : Nat} {t : TypeId} {x0 x1 x2 x3 x4 x5 x6 : Value} (h : Aside0 (w.heap[g]? = some (.cells #[x0, x1, x2, x3, x4, x5, x6] t (0, 0)))) : w.cell? ⟨g, 0, none⟩ = some x0 ∧ w.cell? ⟨g, 1, none⟩ = some x1 ∧ w.cell? ⟨g, 2, none⟩ = some x2 ∧ w.cell? ⟨g, 3, none⟩ = some x3 ∧ w.cell? ⟨g, 4, none⟩ = some x4 ∧ w.cell? ⟨g, 5, none⟩ = some x5 ∧ w.cell? ⟨g, 6, none⟩ = some x6 ∧ w.frozen? ⟨g, 0, none⟩ = false ∧ w.frozen? ⟨g, 1, none⟩ = false ∧ w.frozen? ⟨g, 2, none⟩ = false ∧ w.frozen? ⟨g, 3, none⟩ = false ∧ w.frozen? ⟨g, 4, none⟩ = false ∧ w.frozen? ⟨g, 5, none⟩ = false ∧ w.frozen? ⟨g, 6, none⟩ = false := ⟨blk_cell h.out 0, blk_cell h.out 1, blk_cell h.out 2, blk_cell h.out 3, blk_cell h.out 4, blk_cell h.out 5, blk_cell h.out 6, blk_frozen h.out 0, blk_frozen h.out 1, blk_frozen h.out 2, blk_frozen h.out 3, blk_frozen h.out 4, blk_frozen h.out 5, blk_frozen h.out 6⟩
theorem b8 {w : World} {g : Nat} {t : TypeId} {x0 x1 x2 x3 x4 x5 x6 x7 : Value} (h : Aside0 (w.heap[g]? = some (.cells #[x0, x1, x2, x3, x4, x5, x6, x7] t (0, 0)))) : w.cell? ⟨g, 0, none⟩ = some x0 ∧ w.cell? ⟨g, 1, none⟩ = some x1 ∧ w.cell? ⟨g, 2, none⟩ = some x2 ∧ w.cell? ⟨g, 3, none⟩ = some x3 ∧ w.cell? ⟨g, 4, none⟩ = some x4 ∧ w.cell? ⟨g, 5, none⟩ = some x5 ∧ w.cell? ⟨g, 6, none⟩ = some x6 ∧ w.cell? ⟨g, 7, none⟩ = some x7 ∧ w.frozen? ⟨g, 0, none⟩ = false ∧ w.frozen? ⟨g, 1, none⟩ = false ∧ w.frozen? ⟨g, 2, none⟩ = false ∧ w.frozen? ⟨g, 3, none⟩ = false ∧ w.frozen? ⟨g, 4, none⟩ = false ∧ w.frozen? ⟨g, 5, none⟩ = false ∧ w.frozen? ⟨g, 6, none⟩ = false ∧ w.frozen? ⟨g, 7, none⟩ = false := ⟨blk_cell h.out 0, blk_cell h.out 1, blk_cell h.out 2, blk_cell h.out 3, blk_cell h.out 4, blk_cell h.out 5, blk_cell h.out 6, blk_cell h.out 7, blk_frozen h.out 0, blk_frozen h.out 1, blk_frozen h.out 2, blk_frozen h.out 3, blk_frozen h.out 4, blk_frozen h.out 5, blk_frozen h.out 6, blk_frozen h.out 7⟩
theorem St.of_below {w0 w w1 : World} {g : Nat} {A : Option Addr} {c : Nat} {L : List S40} {i e : Int} {ov iv : Value} (h : St w0 w g A c L i e ov iv) (hb : Below w.heap.size w w1) : St w0 w1 g A c L i e ov iv := ⟨below_step h.below hb, h.ge, blk_below h.blk hb⟩
/-- A code of bytes. -/
def valF (s : ByteArray) : Int × Int × Bool := if 1 ≤ s.size ∧ s.size ≤ 4 then (s.size, (bytesOf s).foldl (fun v b => Go.bits .or .i64 (wrap64 (v * 256)) (wrap64 b)) 0, true) else (0, 0, false)
theorem val_loop (l : List Int) : ∀ (d i : Nat) (n v : Int), l.length = i + d → l.length ≤ 4 → hex_Val.l0 (d + 1) l (l.length : Int) (i : Int) n v = some (n, (l.drop i).foldl (fun v b => Go.bits .or .i64 (wrap64 (v * 256)) (wrap64 b)) v, true)
 | 0, i, n, v, hd, h4 => by
  simp only [hex_Val.l0]
  rw [if_neg (by omega), List.drop_eq_nil_of_le (by omega)]
  rfl
 | d + 1, i, n, v, hd, h4 => by
  have hi : i < l.length := by omega
  have e1 : wrap64 ((i : Int) + 1) = ((i + 1 : Nat) : Int) := by unfold wrap64; omega
  have hr : rd l (i : Int) = l[i] := by simp [rd, List.getD, hi]
  rw [hex_Val.l0, if_pos (by omega), if_pos (by omega), if_pos (by omega), e1, val_loop l d (i + 1) _ _ (by omega) h4, List.drop_eq_getElem_cons hi, List.foldl_cons, hr]
theorem val_eq (s : ByteArray) : ∃ k, hex_Val.f k (bytesOf s) = some (valF s) := by
 have hl := bytesOf_length s
 refine ⟨s.size + 2, ?_⟩
 unfold hex_Val.f valF
 by_cases h1 : ((bytesOf s).length : Int) < 1
 ·rw [if_pos h1, if_neg (by omega), hex_Val.j0, if_pos rfl]
 ·rw [if_neg h1]
  by_cases h2 : ((bytesOf s).length : Int) > 4
  ·rw [decide_eq_true h2, if_neg (by omega), hex_Val.j0, if_pos rfl]
  ·rw [decide_eq_false h2, if_pos (by omega), hex_Val.j0, if_neg (by decide)]
   have h := val_loop (bytesOf s) (bytesOf s).length 0 ((bytesOf s).length : Int) 0 (by omega) (by omega)
   rw [List.drop_zero] at h
   rw [hl] at h ⊢
   exact h
section
variable {w0 w : World} {g : Nat} {A : Option Addr} {c : Nat} {L : List S40} {i e : Int} {ov iv : Value}
theorem ahead_none (hS : St w0 w g A c L i e ov iv) (n : Int) (hn : i < n) :
  Calls Tryz.prog 54 #[.pointer (some ⟨g, 0, none⟩), .int .i64 n] w fun x w' => x = .returned (.agg #[.int .i64 0, .int .i64 0, .int .i64 0, .string ⟨#[]⟩]) ∧ Below w.heap.size w w' := by
 have hu40 := Tryz.underlying40
 have hu58 := Tryz.underlying58
 have hc : decide (i < n) = true := decide_eq_true hn
 have HS := aM hS
 clear hS
 have HB := aM (Below.refl w.heap.size w)
 obtain ⟨sc0, sc1, sc2, sc3, sc4, sf0, sf1, sf2, sf3, sf4⟩ := b5 HS.out.blk
 go_enter Tryz.func54, Tryz.ntmps54
 go_wp2_with (first | ((with_reducible refine gD 4 ?_); refine bE 4 (cs := #[.int .i64 0, .int .i64 0, .int .i64 0, .string (⟨#[]⟩ : ByteArray)]) (t := 40) ?_; intro gb hg w1 hbox hb; have BKgb := aM hbox; have NEgb := aM (show g ≠ gb by rw [hg]; exact Nat.ne_of_lt (blk_lt HS.out.blk)); have NFgb := aM (Ne.symm NEgb.out); have GEgb := aM (show w0.heap.size ≤ gb by rw [hg]; exact HS.out.below.size); replace HS := aM (HS.out.of_below hb); have GE := sG w hg; replace HB := aM hb; clear hb hbox hg; obtain ⟨sc0, sc1, sc2, sc3, sc4, sf0, sf1, sf2, sf3, sf4⟩ := b5 HS.out.blk; obtain ⟨gbk0, gbk1, gbk2, gbk3, gbm0, gbm1, gbm2, gbm3⟩ := b4 BKgb; have nqgb := NEgb.out; have nrgb := NFgb.out))
 refine bodyPost_ret (results_cell_row rfl _ _ gb 40 zT (0, 0) _ rfl kQ Tryz.underlying40 rfl (by kernel_rfl)) rfl ?_
 exact ⟨rfl, bQ⟩
theorem ahead_some (hC : Kd.C k40 w0 A L.length L) (hS : St w0 w g A c L i e ov iv) (n j : Int) (hj : j = i - n) (hn : ¬ i < n) (h0 : 0 ≤ j) (h1 : j < L.length) (hr : -9223372036854775808 ≤ i - n ∧ i - n ≤ 9223372036854775807) :
  Calls Tryz.prog 54 #[.pointer (some ⟨g, 0, none⟩), .int .i64 n] w fun x w' => x = .returned (.agg (tok4 (rd_T40 L j))) ∧ Below w.heap.size w w' := by
 have hu40 := Tryz.underlying40
 have hu58 := Tryz.underlying58
 have hc : decide (i < n) = false := decide_eq_false hn
 have hw : wrap64 (i - n) = j := by unfold wrap64; omega
 obtain ⟨ad, rfl, x0, x1, x2, x3⟩ := at_T40 (Kd.C_below hC hS.below) j h0 h1
 have HS := aM hS
 clear hS
 have HB := aM (Below.refl w.heap.size w)
 obtain ⟨sc0, sc1, sc2, sc3, sc4, sf0, sf1, sf2, sf3, sf4⟩ := b5 HS.out.blk
 have p9 := eq_true h0
 have q9 := eq_true h1
 clear hj hn hr
 go_enter Tryz.func54, Tryz.ntmps54
 go_wp2_with (first | ((with_reducible refine gD 4 ?_); refine bE 4 (cs := #[.int .i64 0, .int .i64 0, .int .i64 0, .string (⟨#[]⟩ : ByteArray)]) (t := 40) ?_; intro gb hg w1 hbox hb; have BKgb := aM hbox; have NEgb := aM (show g ≠ gb by rw [hg]; exact Nat.ne_of_lt (blk_lt HS.out.blk)); have NFgb := aM (Ne.symm NEgb.out); have GEgb := aM (show w0.heap.size ≤ gb by rw [hg]; exact HS.out.below.size); replace HS := aM (HS.out.of_below hb); have GE := sG w hg; replace HB := aM hb; replace x0 := pw_cell_below hb x0; replace x1 := pw_cell_below hb x1; replace x2 := pw_cell_below hb x2; replace x3 := pw_cell_below hb x3; clear hb hbox hg; obtain ⟨sc0, sc1, sc2, sc3, sc4, sf0, sf1, sf2, sf3, sf4⟩ := b5 HS.out.blk; obtain ⟨gbk0, gbk1, gbk2, gbk3, gbm0, gbm1, gbm2, gbm3⟩ := b4 BKgb; have nqgb := NEgb.out; have nrgb := NFgb.out))
 go_region
 try go_wp2_with (fail)
 refine bodyPost_ret (results_cell_row rfl _ _ gb 40 (tok4 (rd_T40 L j)) (0, 0) _ rfl kQ Tryz.underlying40 rfl (by kernel_rfl)) rfl ?_
 exact ⟨rfl, bQ⟩
theorem code_ok (hC : Kd.C k40 w0 A L.length L) (hS : St w0 w g A c L i e ov iv) (h0 : 0 ≤ i) (hn : i < L.length) (hk : (rd_T40 L i).f0 = 4) (n N V' : Int) (hs : (rd_T40 L i).f3.size ≤ 140737488351232) (hv : valF (rd_T40 L i).f3 = (N, V', true)) (hN : n > 0 → N = n) :
  Calls Tryz.prog 146 #[.pointer (some ⟨g, 0, none⟩), .int .i64 n] w fun x w' => x = .returned (.tuple #[.agg #[.int .i64 N, .int .i64 V'], .int .i64 (rd_T40 L i).f1]) ∧ St w0 w' g A c L (i + 1) e ov iv ∧ KeepBut w w' g none := by
 have hu40 := Tryz.underlying40
 have hu46 := Tryz.underlying46
 have hu58 := Tryz.underlying58
 obtain ⟨kv, hkv⟩ := val_eq (rd_T40 L i).f3
 rw [hv] at hkv
 have HS := aM hS
 have HK := aM (KeepBut.refl w g none)
 clear hS
 obtain ⟨hg1, hg2⟩ : (∃ b, decide (0 < n) = b ∧ (b = true → N = n)) ∧ True := ⟨⟨_, rfl, fun h => hN (of_decide_eq_true h)⟩, trivial⟩
 obtain ⟨b, hg1, hg3⟩ := hg1
 clear hg2 hN
 go_enter Tryz.func146, Tryz.ntmps146
 go_wp2_with (first | ((with_reducible refine gD 4 ?_); refine bE 4 (cs := #[.int .i64 0, .int .i64 0]) (t := 46) ?_; intro gb hg w1 hbox hb; have BKgb := aM hbox; have NEgb := aM (show g ≠ gb by rw [hg]; exact Nat.ne_of_lt (blk_lt HS.out.blk)); have NFgb := aM (Ne.symm NEgb.out); have GEgb := aM (show w0.heap.size ≤ gb by rw [hg]; exact HS.out.below.size); replace HS := aM (HS.out.of_below hb); replace HK := aM (KeepBut.trans HK.out (KeepBut.of_below hb g none) (.inl rfl)); have GW := aM (show w.heap.size ≤ gb by rw [hg]; exact Nat.le_refl _); clear hb hbox hg; obtain ⟨sc0, sc1, sc2, sc3, sc4, sf0, sf1, sf2, sf3, sf4⟩ := b5 HS.out.blk; obtain ⟨gbk0, gbk1, gbm0, gbm1⟩ := b2 BKgb; have nqgb := NEgb.out; have nrgb := NFgb.out) | (go_at_call 148; refine (take_ok hC HS.out h0 hn 4 hk.symm).mono ?_; rintro x w2 ⟨rfl, hs2, hk2⟩; replace HS := aM hs2; replace BKgb := aM (KeepBut.blk hk2 BKgb.out NFgb.out (by simp)); replace HK := aM (KeepBut.trans HK.out hk2 (.inl rfl)); have hcv := Lib.run_convert_string_bytes (P := Tryz.prog) (w2.alloc (.cells #[.int .i64 (rd_T40 L i).f0, .int .i64 (rd_T40 L i).f1, .int .i64 (rd_T40 L i).f2, .string (rd_T40 L i).f3] 40)) 9 52 5 (rd_T40 L i).f3 (u := .string) Tryz.underlying9 Tryz.underlying52 Tryz.underlying5; clear hs2 hk2 hk))
 have hsz : (w2.alloc (.cells #[.int .i64 (rd_T40 L i).f0, .int .i64 (rd_T40 L i).f1, .int .i64 (rd_T40 L i).f2, .string (rd_T40 L i).f3] 40)).heap.size = w2.heap.size + 1 := Array.size_push ..
 have hnw : (w2.alloc (.cells #[.int .i64 (rd_T40 L i).f0, .int .i64 (rd_T40 L i).f1, .int .i64 (rd_T40 L i).f2, .string (rd_T40 L i).f3] 40)).heap[w2.heap.size]? = some (.cells (tok4 (rd_T40 L i)) 40 (0, 0)) := blk_new _ _
 have hV0 : Below w2.heap.size w2 (w2.alloc (.cells #[.int .i64 (rd_T40 L i).f0, .int .i64 (rd_T40 L i).f1, .int .i64 (rd_T40 L i).f2, .string (rd_T40 L i).f3] 40)) := below_alloc (Below.refl _ _) _
 generalize w2.alloc (.cells #[.int .i64 (rd_T40 L i).f0, .int .i64 (rd_T40 L i).f1, .int .i64 (rd_T40 L i).f2, .string (rd_T40 L i).f3] 40) = V at hsz hnw hV0 hcv ⊢
 have hrd : Kd.C (Kd.int .u8) (Lib.bytesWorld V 5 (rd_T40 L i).f3) (some ⟨w2.heap.size + 1, 0, none⟩) (bytesOf (rd_T40 L i).f3).length (bytesOf (rd_T40 L i).f3) := by
  rw [bytesOf_length, ← hsz]
  exact Kd.C_of_reads (h1 := fun _ => rfl) (bytes_reads V 5 (rd_T40 L i).f3 (by omega))
 have hx := hex_Val.calls kv (some ⟨w2.heap.size + 1, 0, none⟩) (grownCap V (rd_T40 L i).f3.size 0 5) (bytesOf (rd_T40 L i).f3) N V' true _ hrd (by rw [bytesOf_length]; exact grownCap_ge _ _ _ _) hkv
 rw [bytesOf_length] at hx
 refine hx.mono ?_
 rintro x w3 ⟨rfl, hb⟩
 have hb1 : Below V.heap.size V w3 := below_step (bytes_below (Below.refl _ _) (Nat.le_refl _) 5 _) hb
 have hb2 : Below w2.heap.size w2 w3 := below_step hV0 hb1
 have BT := aM (blk_below hnw hb1)
 have NT := aM (Nat.ne_of_lt (blk_lt HS.out.blk))
 have NB := aM (Nat.ne_of_lt (blk_lt BKgb.out))
 replace HS := aM (HS.out.of_below hb2)
 replace HK := aM (KeepBut.trans HK.out (KeepBut.of_below hb2 g none) (.inl rfl))
 replace BKgb := aM (blk_below BKgb.out hb2)
 clear hx hb hrd hcv hnw hsz hV0 hb1 hb2
 obtain ⟨tk0, tk1, tk2, tk3, tm0, tm1, tm2, tm3⟩ := b4 BT
 have nt := NT.out
 have nb := NB.out
 have nm := aM (Nat.ne_of_lt (blk_lt HS.out.blk))
 have nn := aM (Nat.ne_of_lt (blk_lt BKgb.out))
 have no := aM (Nat.ne_of_lt (blk_lt BT.out))
 have hfin : ∀ W : World, St w0 W g A c L (i + 1) e ov iv ∧ W.heap[gb]? = some (.cells #[.int .i64 0, .int .i64 0] 46 (0, 0)) ∧ W.heap[w2.heap.size]? = some (.cells (tok4 (rd_T40 L i)) 40 (0, 0)) ∧ W.heap[w3.heap.size]? = some (.cells #[.int .i64 N, .int .i64 V'] 46 (0, 0)) ∧ KeepBut w W g none ↔ St w0 W g A c L (i + 1) e ov iv ∧ W.heap[gb]? = some (.cells #[.int .i64 0, .int .i64 0] 46 (0, 0)) ∧ W.heap[w2.heap.size]? = some (.cells (tok4 (rd_T40 L i)) 40 (0, 0)) ∧ W.heap[w3.heap.size]? = some (.cells #[.int .i64 N, .int .i64 V'] 46 (0, 0)) ∧ KeepBut w W g none := fun _ => Iff.rfl
 have hb4 : Below w3.heap.size w3 (w3.alloc (.cells #[.int .i64 N, .int .i64 V'] 46)) := below_alloc (Below.refl _ _) _
 have hall := aM ((⟨HS.out.of_below hb4, blk_below BKgb.out hb4, blk_below BT.out hb4, blk_new _ _, KeepBut.trans HK.out (KeepBut.of_below hb4 g none) (.inl rfl)⟩ : St w0 (w3.alloc (.cells #[.int .i64 N, .int .i64 V'] 46)) g A c L (i + 1) e ov iv ∧ (w3.alloc (.cells #[.int .i64 N, .int .i64 V'] 46)).heap[gb]? = some (.cells #[.int .i64 0, .int .i64 0] 46 (0, 0)) ∧ (w3.alloc (.cells #[.int .i64 N, .int .i64 V'] 46)).heap[w2.heap.size]? = some (.cells (tok4 (rd_T40 L i)) 40 (0, 0)) ∧ (w3.alloc (.cells #[.int .i64 N, .int .i64 V'] 46)).heap[w3.heap.size]? = some (.cells #[.int .i64 N, .int .i64 V'] 46 (0, 0)) ∧ KeepBut w (w3.alloc (.cells #[.int .i64 N, .int .i64 V'] 46)) g none))
 clear hfin hb4
 cases b with
 | true =>
  obtain rfl := hg3 rfl
  go_wp2_with (fail)
  refine norm_w (F := fun W => St w0 W g A c L (i + 1) e ov iv ∧ W.heap[gb]? = some (.cells #[.int .i64 0, .int .i64 0] 46 (0, 0)) ∧ W.heap[w2.heap.size]? = some (.cells (tok4 (rd_T40 L i)) 40 (0, 0)) ∧ W.heap[w3.heap.size]? = some (.cells #[.int .i64 N, .int .i64 V'] 46 (0, 0)) ∧ KeepBut w W g none) hall.out ?_
  clear hall HK BKgb BT HS sc0 sc1 sc2 sc3 sc4 sf0 sf1 sf2 sf3 sf4 gbk0 gbk1 gbm0 gbm1 tk0 tk1 tk2 tk3 tm0 tm1 tm2 tm3
  rintro w4 ⟨hs4, BKgb, BT, BV, hk4⟩
  have HS := aM hs4
  have HK := aM hk4
  replace BKgb := aM BKgb
  obtain ⟨gbk0, gbk1, gbm0, gbm1⟩ := b2 BKgb
  obtain ⟨tk0, tk1, tk2, tk3, tm0, tm1, tm2, tm3⟩ := b4 (aM BT)
  obtain ⟨vk0, vk1, vm0, vm1⟩ := b2 (aM BV)
  have HB := aM hs4.below
  clear hs4 hk4
  have q1 := nn.out
  have q2 := Ne.symm nn.out
  have q3 := Ne.symm NB.out
  go_region
  try go_wp2_with (fail)
  refine bodyPost_ret (results_ct rfl _ _ gb 46 #[.int .i64 N, .int .i64 V'] (0, 0) _ rfl kQ Tryz.underlying46 rfl (by kernel_rfl)) rfl ?_
  have HB2 := HS.out.blk
  exact ⟨rfl, ⟨bQ, HS.out.ge, (by have HB3 := aM HB2; exact kQ)⟩, kpQ⟩
 | false =>
  go_wp2_with (fail)
  refine norm_w (F := fun W => St w0 W g A c L (i + 1) e ov iv ∧ W.heap[gb]? = some (.cells #[.int .i64 0, .int .i64 0] 46 (0, 0)) ∧ W.heap[w2.heap.size]? = some (.cells (tok4 (rd_T40 L i)) 40 (0, 0)) ∧ W.heap[w3.heap.size]? = some (.cells #[.int .i64 N, .int .i64 V'] 46 (0, 0)) ∧ KeepBut w W g none) hall.out ?_
  clear hall HK BKgb BT HS sc0 sc1 sc2 sc3 sc4 sf0 sf1 sf2 sf3 sf4 gbk0 gbk1 gbm0 gbm1 tk0 tk1 tk2 tk3 tm0 tm1 tm2 tm3
  rintro w4 ⟨hs4, BKgb, BT, BV, hk4⟩
  have HS := aM hs4
  have HK := aM hk4
  replace BKgb := aM BKgb
  obtain ⟨gbk0, gbk1, gbm0, gbm1⟩ := b2 BKgb
  obtain ⟨tk0, tk1, tk2, tk3, tm0, tm1, tm2, tm3⟩ := b4 (aM BT)
  obtain ⟨vk0, vk1, vm0, vm1⟩ := b2 (aM BV)
  have HB := aM hs4.below
  clear hs4 hk4
  have q1 := nn.out
  have q2 := Ne.symm nn.out
  have q3 := Ne.symm NB.out
  go_region
  try go_wp2_with (fail)
  refine bodyPost_ret (results_ct rfl _ _ gb 46 #[.int .i64 N, .int .i64 V'] (0, 0) _ rfl kQ Tryz.underlying46 rfl (by kernel_rfl)) rfl ?_
  have HB2 := HS.out.blk
  exact ⟨rfl, ⟨bQ, HS.out.ge, (by have HB3 := aM HB2; exact kQ)⟩, kpQ⟩
end
end Go.Proofs.YtjplnhdplpiogaaGreatDoor.M
end
section
namespace Go.Proofs.YtjplnhdplpiogaaGreatDoor.M
open Go.RowKit Go.Proofs.YtjplnhdplpiogaaGreatDoorW.PrintWords Go.Proofs.YtjplnhdplpiogaaGreatDoorW.PrintLast Go.Proofs.YtjplnhdplpiogaaGreatDoorW.PrintMore
set_option linter.unusedVariables false
set_option linter.unusedSimpArgs false
set_option maxRecDepth 100000
set_option maxHeartbeats 8000000
section
variable {w0 w : World} {g : Nat} {A : Option Addr} {c : Nat} {L : List S40} {i e : Int} {ov iv : Value}
theorem to_ok (hC : Kd.C k40 w0 A L.length L) (hS : St w0 w g A c L i e ov iv) (h0 : 0 ≤ i) (hn : i < L.length) (hk : (rd_T40 L i).f0 = 1) (more : Int) (hm0 : 0 ≤ more) (hm1 : more ≤ 4294967296) (hN0 : 0 ≤ (rd_T40 L i).f2) (hN1 : (rd_T40 L i).f2 ≤ 65535 - more) :
  Calls Tryz.prog 125 #[.pointer (some ⟨g, 0, none⟩), .int .i64 more] w fun x w' => x = .returned (.int .i64 (rd_T40 L i).f2) ∧ St w0 w' g A c L (i + 1) e ov iv ∧ KeepBut w w' g none := by
 have hu40 := Tryz.underlying40
 have hw : wrap64 (65535 - more) = 65535 - more := by unfold wrap64; omega
 have hd1 : decide ((rd_T40 L i).f2 < 0) = false := decide_eq_false (by omega)
 have hd2 : decide (65535 - more < (rd_T40 L i).f2) = false := decide_eq_false (by omega)
 have HS := aM hS
 have HK := aM (KeepBut.refl w g none)
 clear hS hm0 hm1 hN0 hN1
 go_enter Tryz.func125, Tryz.ntmps125
 go_wp2_with (first | (go_at_call 148; refine (take_ok hC HS.out h0 hn 1 hk.symm).mono ?_; rintro x w2 ⟨rfl, hs2, hk2⟩; replace HS := aM hs2; replace HK := aM (KeepBut.trans HK.out hk2 (.inl rfl)); clear hs2 hk2 hk))
 go_ret
 exact ⟨rfl, HS.out.of_below (below_alloc (Below.refl _ _) _), KeepBut.trans HK.out (KeepBut.of_below (below_alloc (Below.refl _ _) _) g none) (.inl rfl)⟩
/-- An entry of one code, as cells. -/
theorem char_ok (hC : Kd.C k40 w0 A L.length L) (hS : St w0 w g A c L i e ov iv) (h0 : 0 ≤ i) (hn : i < L.length) (hk : (rd_T40 L i).f0 = 4) (N V : Int) (hs : (rd_T40 L i).f3.size ≤ 140737488351232) (hv : valF (rd_T40 L i).f3 = (N, V, true)) :
  Calls Tryz.prog 128 #[.pointer (some ⟨g, 0, none⟩)] w fun x w' => x = .returned (.agg #[.int .i64 N, .int .i64 V, .int .i64 N, .int .i64 V, .int .i64 0, .slice none 0 0, .slice none 0 0]) ∧ St w0 w' g A c L (i + 1) e ov iv ∧ KeepBut w w' g none := by
 have hu46 := Tryz.underlying46
 have hu50 := Tryz.underlying50
 have HS := aM hS
 have HK := aM (KeepBut.refl w g none)
 clear hS
 go_enter Tryz.func128, Tryz.ntmps128
 go_wp2_with (first | ((with_reducible refine gD 2 ?_); refine bE 2 (cs := #[.int .i64 0, .int .i64 0, .int .i64 0, .int .i64 0, .int .i64 0, .slice none 0 0, .slice none 0 0]) (t := 50) ?_; intro gb hg w1 hbox hb; have BKgb := aM hbox; have NEgb := aM (show g ≠ gb by rw [hg]; exact Nat.ne_of_lt (blk_lt HS.out.blk)); have NFgb := aM (Ne.symm NEgb.out); have GEgb := aM (show w0.heap.size ≤ gb by rw [hg]; exact HS.out.below.size); replace HS := aM (HS.out.of_below hb); replace HK := aM (KeepBut.trans HK.out (KeepBut.of_below hb g none) (.inl rfl)); have GW := aM (show w.heap.size ≤ gb by rw [hg]; exact Nat.le_refl _); clear hb hbox hg; obtain ⟨sc0, sc1, sc2, sc3, sc4, sf0, sf1, sf2, sf3, sf4⟩ := b5 HS.out.blk; obtain ⟨gbk0, gbk1, gbk2, gbk3, gbk4, gbk5, gbk6, gbm0, gbm1, gbm2, gbm3, gbm4, gbm5, gbm6⟩ := b7 BKgb; have nqgb := NEgb.out; have nrgb := NFgb.out) | (go_at_call 146; refine (code_ok hC HS.out h0 hn hk 0 N V hs hv (fun h => absurd h (by decide))).mono ?_; rintro x w2 ⟨rfl, hs2, hk2⟩; replace HS := aM hs2; replace BKgb := aM (KeepBut.blk hk2 BKgb.out NFgb.out (by simp)); replace HK := aM (KeepBut.trans HK.out hk2 (.inl rfl)); have hz2 := Nat.ne_of_lt (blk_lt BKgb.out); clear hs2 hk2 hk; have HB := aM HS.out.below; have BKal := aM (blk_alloc BKgb.out (.cells #[.int .i64 N, .int .i64 V] 46)); obtain ⟨alk0, alk1, alk2, alk3, alk4, alk5, alk6, alm0, alm1, alm2, alm3, alm4, alm5, alm6⟩ := b7 BKal; have hz3 := aM hz2))
 have nb2 := aM (Nat.ne_of_lt (blk_lt HS.out.blk))
 refine bodyPost_ret (results_cell_row rfl _ _ gb 50 #[.int .i64 N, .int .i64 V, .int .i64 N, .int .i64 V, .int .i64 0, .slice none 0 0, .slice none 0 0] (0, 0) _ rfl kQ Tryz.underlying50 rfl (by kernel_rfl)) rfl ?_
 have HB2 := aM HS.out.blk
 exact ⟨rfl, ⟨bQ, HS.out.ge, kQ⟩, kpQ⟩
theorem toChar_ok (hC : Kd.C k40 w0 A L.length L) (hS : St w0 w g A c L i e ov iv) (h0 : 0 ≤ i) (hn : i + 1 < L.length) (hk : (rd_T40 L i).f0 = 4) (N V M : Int) (hs : (rd_T40 L i).f3.size ≤ 140737488351232) (hv : valF (rd_T40 L i).f3 = (N, V, true)) (hk1 : (rd_T40 L (i + 1)).f0 = 1) (hM : M = (rd_T40 L (i + 1)).f2) (hM0 : 0 ≤ M) (hM1 : M ≤ 65535) :
  Calls Tryz.prog 107 #[.pointer (some ⟨g, 0, none⟩)] w fun x w' => x = .returned (.agg #[.int .i64 N, .int .i64 V, .int .i64 N, .int .i64 V, .int .i64 M, .slice none 0 0, .slice none 0 0]) ∧ St w0 w' g A c L (i + 2) e ov iv ∧ KeepBut w w' g none := by
 have hu50 := Tryz.underlying50
 have HS := aM hS
 have HK := aM (KeepBut.refl w g none)
 clear hS
 subst hM
 go_enter Tryz.func107, Tryz.ntmps107
 go_wp2_with (first | ((with_reducible refine gD 2 ?_); refine bE 2 (cs := #[.int .i64 0, .int .i64 0, .int .i64 0, .int .i64 0, .int .i64 0, .slice none 0 0, .slice none 0 0]) (t := 50) ?_; intro gb hg w1 hbox hb; have BKgb := aM hbox; have NEgb := aM (show g ≠ gb by rw [hg]; exact Nat.ne_of_lt (blk_lt HS.out.blk)); have NFgb := aM (Ne.symm NEgb.out); have GEgb := aM (show w0.heap.size ≤ gb by rw [hg]; exact HS.out.below.size); replace HS := aM (HS.out.of_below hb); replace HK := aM (KeepBut.trans HK.out (KeepBut.of_below hb g none) (.inl rfl)); have GW := aM (show w.heap.size ≤ gb by rw [hg]; exact Nat.le_refl _); clear hb hbox hg; obtain ⟨sc0, sc1, sc2, sc3, sc4, sf0, sf1, sf2, sf3, sf4⟩ := b5 HS.out.blk; obtain ⟨gbk0, gbk1, gbk2, gbk3, gbk4, gbk5, gbk6, gbm0, gbm1, gbm2, gbm3, gbm4, gbm5, gbm6⟩ := b7 BKgb; have nqgb := NEgb.out; have nrgb := NFgb.out) | (go_at_call 128; refine (char_ok hC HS.out h0 (by omega) hk N V hs hv).mono ?_; rintro x w2 ⟨rfl, hs2, hk2⟩; have HS2 := aM (hs2.of_below (below_alloc (Below.refl _ _) (.cells #[.int .i64 N, .int .i64 V, .int .i64 N, .int .i64 V, .int .i64 0, .slice none 0 0, .slice none 0 0] 50))); have BK2 := aM (KeepBut.blk hk2 BKgb.out NFgb.out (by simp)); have NT := aM (Nat.ne_of_lt (blk_lt hs2.blk)); have NB := aM (Nat.ne_of_lt (blk_lt BK2.out)); have GT := aM (below_size hs2.below); have GW2 := aM (KeepBut.trans HK.out hk2 (.inl rfl)).1; have BA := aM (blk_alloc BK2.out (.cells #[.int .i64 N, .int .i64 V, .int .i64 N, .int .i64 V, .int .i64 0, .slice none 0 0, .slice none 0 0] 50)); have BN := aM (blk_new w2 (.cells #[.int .i64 N, .int .i64 V, .int .i64 N, .int .i64 V, .int .i64 0, .slice none 0 0, .slice none 0 0] 50)); replace HK := aM (KeepBut.trans HK.out (KeepBut.trans hk2 (KeepBut.of_below (below_alloc (Below.refl _ _) (.cells #[.int .i64 N, .int .i64 V, .int .i64 N, .int .i64 V, .int .i64 0, .slice none 0 0, .slice none 0 0] 50)) g none) (.inl rfl)) (.inl rfl)); clear hs2 hk2 hk) | (go_at_call 125; refine (to_ok hC HS2.out (by omega) hn hk1 0 (by omega) (by omega) (by omega) (by omega)).mono ?_; rintro x w3 ⟨rfl, hs3, hk3⟩; replace HS := aM hs3; have BK3 := aM (KeepBut.blk hk3 BA.out NFgb.out (by simp)); have BT := aM (KeepBut.blk hk3 BN.out (Ne.symm NT.out) (by simp)); replace HK := aM (KeepBut.trans HK.out hk3 (.inl rfl)); have HB := aM hs3.below; clear hs3 hk3; obtain ⟨tk0, tk1, tk2, tk3, tk4, tk5, tk6, tm0, tm1, tm2, tm3, tm4, tm5, tm6⟩ := b7 BT; obtain ⟨gbk0, gbk1, gbk2, gbk3, gbk4, gbk5, gbk6, gbm0, gbm1, gbm2, gbm3, gbm4, gbm5, gbm6⟩ := b7 BK3; have n1 := NB.out; have n2 := Ne.symm NB.out; have n3 := NB))
 refine bodyPost_ret (results_cell_row rfl _ _ gb 50 #[.int .i64 N, .int .i64 V, .int .i64 N, .int .i64 V, .int .i64 (rd_T40 L (i + 1)).f2, .slice none 0 0, .slice none 0 0] (0, 0) _ rfl kQ Tryz.underlying50 rfl (by kernel_rfl)) rfl ?_
 have HB2 := aM HS.out.blk
 have e2 : i + 1 + 1 = i + 2 := by omega
 exact ⟨rfl, ⟨bQ, HS.out.ge, e2 ▸ kQ⟩, kpQ⟩
end
end Go.Proofs.YtjplnhdplpiogaaGreatDoor.M
end
section
namespace Go.Proofs.YtjplnhdplpiogaaGreatDoor.M
open Go.RowKit Go.Proofs.YtjplnhdplpiogaaGreatDoorW.PrintWords Go.Proofs.YtjplnhdplpiogaaGreatDoorW.PrintLast Go.Proofs.YtjplnhdplpiogaaGreatDoorW.PrintMore
set_option linter.unusedVariables false
set_option linter.unusedSimpArgs false
set_option maxRecDepth 100000
set_option maxHeartbeats 8000000
theorem b9 {w : World} {g : Nat} {t : TypeId} {x0 x1 x2 x3 x4 x5 x6 x7 x8 : Value} (h : Aside0 (w.heap[g]? = some (.cells #[x0, x1, x2, x3, x4, x5, x6, x7, x8] t (0, 0)))) : w.cell? ⟨g, 0, none⟩ = some x0 ∧ w.cell? ⟨g, 1, none⟩ = some x1 ∧ w.cell? ⟨g, 2, none⟩ = some x2 ∧ w.cell? ⟨g, 3, none⟩ = some x3 ∧ w.cell? ⟨g, 4, none⟩ = some x4 ∧ w.cell? ⟨g, 5, none⟩ = some x5 ∧ w.cell? ⟨g, 6, none⟩ = some x6 ∧ w.cell? ⟨g, 7, none⟩ = some x7 ∧ w.cell? ⟨g, 8, none⟩ = some x8 ∧ w.frozen? ⟨g, 0, none⟩ = false ∧ w.frozen? ⟨g, 1, none⟩ = false ∧ w.frozen? ⟨g, 2, none⟩ = false ∧ w.frozen? ⟨g, 3, none⟩ = false ∧ w.frozen? ⟨g, 4, none⟩ = false ∧ w.frozen? ⟨g, 5, none⟩ = false ∧ w.frozen? ⟨g, 6, none⟩ = false ∧ w.frozen? ⟨g, 7, none⟩ = false ∧ w.frozen? ⟨g, 8, none⟩ = false := ⟨blk_cell h.out 0, blk_cell h.out 1, blk_cell h.out 2, blk_cell h.out 3, blk_cell h.out 4, blk_cell h.out 5, blk_cell h.out 6, blk_cell h.out 7, blk_cell h.out 8, blk_frozen h.out 0, blk_frozen h.out 1, blk_frozen h.out 2, blk_frozen h.out 3, blk_frozen h.out 4, blk_frozen h.out 5, blk_frozen h.out 6, blk_frozen h.out 7, blk_frozen h.out 8⟩
abbrev namesV : Array Value := #[.string (⟨#[]⟩ : ByteArray), .string (⟨#[]⟩ : ByteArray), .string (⟨#[99, 111, 100, 101, 115, 112, 97, 99, 101, 114, 97, 110, 103, 101]⟩ : ByteArray), .string (⟨#[99, 105, 100, 114, 97, 110, 103, 101]⟩ : ByteArray), .string (⟨#[99, 105, 100, 99, 104, 97, 114]⟩ : ByteArray), .string (⟨#[110, 111, 116, 100, 101, 102, 114, 97, 110, 103, 101]⟩ : ByteArray), .string (⟨#[110, 111, 116, 100, 101, 102, 99, 104, 97, 114]⟩ : ByteArray), .string (⟨#[98, 102, 114, 97, 110, 103, 101]⟩ : ByteArray), .string (⟨#[98, 102, 99, 104, 97, 114]⟩ : ByteArray)]
def nameOf (k : Int) : ByteArray := ([(⟨#[]⟩ : ByteArray), (⟨#[]⟩ : ByteArray), (⟨#[99, 111, 100, 101, 115, 112, 97, 99, 101, 114, 97, 110, 103, 101]⟩ : ByteArray), (⟨#[99, 105, 100, 114, 97, 110, 103, 101]⟩ : ByteArray), (⟨#[99, 105, 100, 99, 104, 97, 114]⟩ : ByteArray), (⟨#[110, 111, 116, 100, 101, 102, 114, 97, 110, 103, 101]⟩ : ByteArray), (⟨#[110, 111, 116, 100, 101, 102, 99, 104, 97, 114]⟩ : ByteArray), (⟨#[98, 102, 114, 97, 110, 103, 101]⟩ : ByteArray), (⟨#[98, 102, 99, 104, 97, 114]⟩ : ByteArray)] : List ByteArray).getD k.toNat ⟨#[]⟩
theorem names_calls (w : World) : Calls Tryz.prog 25 #[] w fun x w' => x = .returned (.agg namesV) ∧ Below w.heap.size w w' := by
 have hu72 := Tryz.underlying72
 have HB := aM (Below.refl w.heap.size w)
 go_enter Tryz.func25, Tryz.ntmps25
 go_wp2_with (first | ((with_reducible refine gD 0 ?_); refine bE 0 (cs := #[.string (⟨#[]⟩ : ByteArray), .string (⟨#[]⟩ : ByteArray), .string (⟨#[]⟩ : ByteArray), .string (⟨#[]⟩ : ByteArray), .string (⟨#[]⟩ : ByteArray), .string (⟨#[]⟩ : ByteArray), .string (⟨#[]⟩ : ByteArray), .string (⟨#[]⟩ : ByteArray), .string (⟨#[]⟩ : ByteArray)]) (t := 72) ?_; intro gb hg w1 hbox hb; have BK := aM hbox; have GE := sG w hg; replace HB := aM hb; clear hb hbox hg; obtain ⟨n0, n1, n2, n3, n4, n5, n6, n7, n8, n9, n10, n11, n12, n13, n14, n15, n16, n17⟩ := b9 BK))
 refine bodyPost_ret (results_cell_row rfl _ _ gb 72 namesV (0, 0) _ rfl kQ Tryz.underlying72 rfl (by kernel_rfl)) rfl ?_
 exact ⟨rfl, bQ⟩
theorem index_names (k : Int) (hk : k = 2 ∨ k = 3 ∨ k = 4 ∨ k = 5 ∨ k = 6 ∨ k = 7 ∨ k = 8) (w : World) : (Instr.index 72 (.agg namesV) (.int .i64 k)).run Tryz.prog w = .ok (.string (nameOf k)) w := by
 rcases hk with rfl | rfl | rfl | rfl | rfl | rfl | rfl
 all_goals kernel_rfl
def syn_Begin.f (a0 : Int) : Option ByteArray := if a0 < 2 ∨ 8 < a0 then some ⟨#[]⟩ else some ((⟨#[98, 101, 103, 105, 110]⟩ : ByteArray) ++ nameOf a0)
theorem syn_Begin.calls (a0 : Int) (r : ByteArray) (w : World) (h : syn_Begin.f a0 = some r) : Calls Tryz.prog 14 #[.int .i64 a0] w fun e w' => e = .returned (.string r) ∧ Below w.heap.size w w' := by
 have HB := aM (Below.refl w.heap.size w)
 unfold syn_Begin.f at h
 by_cases h1 : a0 < 2
 ·rw [if_pos (.inl h1)] at h
  obtain rfl := Option.some.inj h
  have d1 := decide_eq_true h1
  go_enter Tryz.func14, Tryz.ntmps14
  go_wp2
  go_ret
  exact ⟨rfl, bQ⟩
 ·by_cases h2 : 8 < a0
  ·rw [if_pos (.inr h2)] at h
   obtain rfl := Option.some.inj h
   have d1 := decide_eq_false h1
   have d2 := decide_eq_true h2
   go_enter Tryz.func14, Tryz.ntmps14
   go_wp2
   go_ret
   exact ⟨rfl, bQ⟩
  ·rw [if_neg (by omega)] at h
   obtain rfl := Option.some.inj h
   have hk : a0 = 2 ∨ a0 = 3 ∨ a0 = 4 ∨ a0 = 5 ∨ a0 = 6 ∨ a0 = 7 ∨ a0 = 8 := by omega
   have hix := index_names a0 hk
   obtain rfl | rfl | rfl | rfl | rfl | rfl | rfl := hk
   all_goals clear h h1 h2
   all_goals go_enter Tryz.func14, Tryz.ntmps14
   all_goals go_wp2_with (first | (go_at_call 25; refine (names_calls _).mono ?_; rintro x w1 ⟨rfl, hb⟩; replace HB := sB hb; clear hb))
   all_goals go_ret
   all_goals exact ⟨rfl, bQ⟩
def entryFn (k : Int) : Nat := if k = 2 then 102 else if k = 3 then 103 else if k = 5 then 104 else if k = 7 then 105 else if k = 8 then 106 else 107
theorem entry_calls (p : Value) (k : Int) (hk : k = 2 ∨ k = 3 ∨ k = 4 ∨ k = 5 ∨ k = 6 ∨ k = 7 ∨ k = 8) (w : World) : Calls Tryz.prog 82 #[p, .int .i64 k] w fun e w' => e = .returned (.func (.func (entryFn k)) #[p] #[]) ∧ w' = w := by
 have hmf : ∀ (fn : Fn) (first cap : Array Value) (w : World), (Instr.makeFunc fn first cap).run Tryz.prog w = .ok (.func fn first cap) w := fun _ _ _ _ => rfl
 rcases hk with rfl | rfl | rfl | rfl | rfl | rfl | rfl
 all_goals go_enter Tryz.func82, Tryz.ntmps82
 all_goals go_wp2
 all_goals go_ret
 all_goals exact ⟨rfl, rfl⟩
end Go.Proofs.YtjplnhdplpiogaaGreatDoor.M
end
section
namespace Go.Proofs.YtjplnhdplpiogaaGreatDoor.M
open Go.RowKit Go.Proofs.YtjplnhdplpiogaaGreatDoorW.PrintWords Go.Proofs.YtjplnhdplpiogaaGreatDoorW.PrintLast Go.Proofs.YtjplnhdplpiogaaGreatDoorW.PrintMore
attribute [local go_sem] max2_int min2_int max_two min_two max_three min_three max_four min_four
set_option linter.unusedVariables false
set_option linter.unusedSimpArgs false
def stringslite_HasPrefix.f (a0 : ByteArray) (a1 : ByteArray) : Option (Bool) := if (a0.size : Int) ≥ (a1.size : Int) then (if 0 ≤ (a1.size : Int) then (if (a1.size : Int) ≤ (a0.size : Int) then (some ((a0.extract 0 ((a1.size : Int) : Int).toNat).toList == a1.toList)) else (none)) else (none)) else (some false)
set_option maxHeartbeats 8000000 in
set_option maxRecDepth 100000 in
theorem stringslite_HasPrefix.calls (a0 : ByteArray) (a1 : ByteArray) (r : Bool) (w : World) (h : stringslite_HasPrefix.f a0 a1 = some r) :
  Calls Tryz.prog 92 #[.string a0, .string a1] w fun e w' => e = .returned (.bool r) ∧ Drawn0 w w' := by
 have H : (if (a0.size : Int) ≥ (a1.size : Int) then (if 0 ≤ (a1.size : Int) then (if (a1.size : Int) ≤ (a0.size : Int) then (some ((a0.extract 0 ((a1.size : Int) : Int).toNat).toList == a1.toList)) else (none)) else (none)) else (some false)) = some r := h
 clear h
 refine iNc H ?_ ?_<;>clear H<;>intro H c3
 rotate_left
 ·have c3b0 : decide ((a1.size : Int) ≤ (a0.size : Int)) = false := decide_eq_false c3
  have c3b1 : decide (a1.size ≤ a0.size) = false := decide_eq_false (fun h => c3 (Int.ofNat_le.mpr h))
  clear c3
  obtain rfl := Option.some.inj H
  go_enter Tryz.func92, Tryz.ntmps92
  go_wp2
  go_ret
  exact ⟨by first | rfl | (simp; done) | (simp [*]; done), by repeat (first | exact Drawn0.refl _ | apply Drawn0.step)⟩
 have c3b0 : decide ((a1.size : Int) ≤ (a0.size : Int)) = true := decide_eq_true c3
 have c3b1 : decide (a1.size ≤ a0.size) = true := decide_eq_true (Int.ofNat_le.mp c3)
 clear c3
 refine iNc H ?_ ?_<;>clear H<;>intro H c4
 rotate_left
 ·exact absurd H (by simp)
 have c4b0 := eq_true c4
 have c4b1 : decide (0 ≤ (a1.size : Int)) = true := decide_eq_true c4
 clear c4
 refine iNc H ?_ ?_<;>clear H<;>intro H c5
 rotate_left
 ·exact absurd H (by simp)
 have c5b0 := eq_true c5
 have c5b1 : decide ((a1.size : Int) ≤ (a0.size : Int)) = true := decide_eq_true c5
 clear c5
 obtain rfl := Option.some.inj H
 go_enter Tryz.func92, Tryz.ntmps92
 go_wp2
 go_ret
 exact ⟨by first | rfl | (simp; done) | (simp [*]; done), by repeat (first | exact Drawn0.refl _ | apply Drawn0.step)⟩
def stringslite_CutPrefix.f (a0 : ByteArray) (a1 : ByteArray) : Option (ByteArray × Bool) := (stringslite_HasPrefix.f a0 a1).bind fun t102 => (if t102 = true then (if 0 ≤ (a1.size : Int) then (if (a1.size : Int) ≤ (a0.size : Int) then (some (a0.extract ((a1.size : Int) : Int).toNat a0.size, true)) else (none)) else (none)) else (some (a0, false)))
set_option maxHeartbeats 8000000 in
set_option maxRecDepth 100000 in
theorem stringslite_CutPrefix.calls (a0 : ByteArray) (a1 : ByteArray) (r1 : ByteArray) (r2 : Bool) (w : World) (h : stringslite_CutPrefix.f a0 a1 = some (r1, r2)) :
  Calls Tryz.prog 101 #[.string a0, .string a1] w fun e w' => e = .returned (.tuple #[.string r1, .bool r2]) ∧ Drawn0 w w' := by
 have H : ((stringslite_HasPrefix.f a0 a1).bind fun t102 => (if t102 = true then (if 0 ≤ (a1.size : Int) then (if (a1.size : Int) ≤ (a0.size : Int) then (some (a0.extract ((a1.size : Int) : Int).toNat a0.size, true)) else (none)) else (none)) else (some (a0, false)))) = some (r1, r2) := h
 clear h
 replace H := bS H
 obtain ⟨t102, A3, H⟩ := H
 try dsimp only at H
 by_cases c4 : t102 = true
 rotate_left
 ·replace c4 := Bool.eq_false_iff.mpr c4
  subst c4
  rw [if_neg (show ¬ (false = true) by decide)] at H
  simp only [Option.some.injEq, Prod.mk.injEq] at H
  obtain ⟨rfl, rfl⟩ := H
  go_enter Tryz.func101, Tryz.ntmps101
  go_wp2_with (first | ((with_reducible refine gC 92 ?_); refine gL (some 8) Tryz.func92 #[.string a0, .string a1] ?_; (with_reducible refine (stringslite_HasPrefix.calls a0 a1 false _ A3.out).mono ?_); rintro e w' ⟨rfl, ⟨nd, rfl⟩⟩; refine ⟨_, rfl, ?_⟩))
  go_ret2
  exact ⟨by first | rfl | (simp; done) | (simp [*]; done), by repeat (first | exact Drawn0.refl _ | apply Drawn0.step)⟩
 subst c4
 rw [if_pos rfl] at H
 refine iNc H ?_ ?_<;>clear H<;>intro H c5
 rotate_left
 ·exact absurd H (by simp)
 have c5b0 := eq_true c5
 have c5b1 : decide (0 ≤ (a1.size : Int)) = true := decide_eq_true c5
 clear c5
 refine iNc H ?_ ?_<;>clear H<;>intro H c6
 rotate_left
 ·exact absurd H (by simp)
 have c6b0 := eq_true c6
 have c6b1 : decide ((a1.size : Int) ≤ (a0.size : Int)) = true := decide_eq_true c6
 clear c6
 simp only [Option.some.injEq, Prod.mk.injEq] at H
 obtain ⟨rfl, rfl⟩ := H
 go_enter Tryz.func101, Tryz.ntmps101
 go_wp2_with (first | ((with_reducible refine gC 92 ?_); refine gL (some 8) Tryz.func92 #[.string a0, .string a1] ?_; (with_reducible refine (stringslite_HasPrefix.calls a0 a1 true _ A3.out).mono ?_); rintro e w' ⟨rfl, ⟨nd, rfl⟩⟩; refine ⟨_, rfl, ?_⟩))
 go_ret2
 exact ⟨by first | rfl | (simp; done) | (simp [*]; done), by repeat (first | exact Drawn0.refl _ | apply Drawn0.step)⟩
def strings_CutPrefix.f (a0 : ByteArray) (a1 : ByteArray) : Option (ByteArray × Bool) := (stringslite_CutPrefix.f a0 a1).bind fun bt103 => (some (bt103.1, bt103.2))
set_option maxHeartbeats 8000000 in
set_option maxRecDepth 100000 in
theorem strings_CutPrefix.calls (a0 : ByteArray) (a1 : ByteArray) (r1 : ByteArray) (r2 : Bool) (w : World) (h : strings_CutPrefix.f a0 a1 = some (r1, r2)) :
  Calls Tryz.prog 80 #[.string a0, .string a1] w fun e w' => e = .returned (.tuple #[.string r1, .bool r2]) ∧ Drawn0 w w' := by
 have H : ((stringslite_CutPrefix.f a0 a1).bind fun bt103 => (some (bt103.1, bt103.2))) = some (r1, r2) := h
 clear h
 replace H := bS H
 obtain ⟨⟨t103, t104⟩, A3, H⟩ := H
 try dsimp only at H
 simp only [Option.some.injEq, Prod.mk.injEq] at H
 obtain ⟨rfl, rfl⟩ := H
 go_enter Tryz.func80, Tryz.ntmps80
 go_wp2_with (first | ((with_reducible refine gC 101 ?_); refine gL (some 8) Tryz.func101 #[.string a0, .string a1] ?_; (with_reducible refine (stringslite_CutPrefix.calls a0 a1 t103 t104 _ A3.out).mono ?_); rintro e w' ⟨rfl, ⟨nd, rfl⟩⟩; refine ⟨_, rfl, ?_⟩))
 go_ret2
 exact ⟨by first | rfl | (simp; done) | (simp [*]; done), by repeat (first | exact Drawn0.refl _ | apply Drawn0.step)⟩
def slices_Index_string_string.l0 : Nat → List ByteArray → ByteArray → Int → Int → Option (Int)
 | 0, _, _, _, _ => none
 | k + 1, x0, x1, x7, x8 => if x8 < x7 then (if 0 ≤ x8 then (if x8 < (x0.length : Int) then (if x1.toList = (rdOf ByteArray.empty x0 x8).toList then (some x8) else (slices_Index_string_string.l0 k x0 x1 x7 (wrap64 (x8 + 1)))) else (none)) else (none)) else (some (-1))
def slices_Index_string_string.f (k : Nat) (l0 : List ByteArray) (a1 : ByteArray) : Option (Int) := slices_Index_string_string.l0 k l0 a1 (l0.length : Int) 0
set_option maxHeartbeats 8000000 in
set_option maxRecDepth 100000 in
theorem slices_Index_string_string.calls (k : Nat) (A0 : Option Addr) (c0 : Nat) (l0 : List ByteArray) (a1 : ByteArray) (r : Int) (w : World) (hr0 : Kd.C Kd.string w A0 l0.length l0) (hc0 : l0.length ≤ c0) (h : slices_Index_string_string.f k l0 a1 = some r) :
  Calls Tryz.prog 81 #[.slice A0 l0.length c0, .string a1] w fun e w' => e = .returned (.int .i64 r) ∧ Drawn0 w w' := by
 have HR0 := aM hr0
 have HC0 := aM hc0
 clear hr0 hc0
 have H : (slices_Index_string_string.l0 k l0 a1 (l0.length : Int) 0) = some r := h
 clear h
 have H' := aM H
 clear H
 go_enter Tryz.func81, Tryz.ntmps81
 go_wp2
 go_loopg [8] k (fun kq v8 w' => ∃ (x8_1 : Int), v8 = .int .i64 x8_1 ∧ Aside0 (slices_Index_string_string.l0 kq l0 a1 (l0.length : Int) x8_1 = some r) ∧ Aside0 (kq ≤ k) ∧ Drawn0 w w')
 case atStart => exact ⟨(0), vQ, H', ⟨Nat.le_refl _⟩, by repeat (first | exact Drawn0.refl _ | apply Drawn0.step)⟩
 case round =>
  clear H'
  try clear p2
  obtain ⟨x8_1, rfl, HA, HK1, ⟨m1, rfl⟩⟩ := hrel
  cases gk with
  | zero => exact absurd HA.out (by simp [slices_Index_string_string.l0])
  | succ k1 =>
   have H := HA.out
   clear HA
   simp only [slices_Index_string_string.l0] at H
   refine iD H ?_ ?_<;>clear H<;>intro H c3b0
   rotate_left
   ·obtain rfl := Option.some.inj H
    go_wp2
    go_ret
    exact ⟨by first | rfl | (simp; done) | (simp [*]; done), by repeat (first | exact Drawn0.refl _ | apply Drawn0.step)⟩
   refine iD H ?_ ?_<;>clear H<;>intro H c4b0
   rotate_left
   ·exact absurd H (by simp)
   refine iD H ?_ ?_<;>clear H<;>intro H c5b0
   rotate_left
   ·exact absurd H (by simp)
   refine iEc H ?_ ?_<;>clear H<;>intro H c6b0 c6b1 c6
   ·clear c6
    obtain rfl := Option.some.inj H
    have p106 : 0 ≤ (x8_1 : Int) := of_decide_eq_true hQ
    have q106 : x8_1 < (l0.length : Int) := of_decide_eq_true hQ
    obtain ⟨ad106, e106, hx106_0⟩ := Kd.at_string HR0.out x8_1 p106 q106
    cases e106
    replace p106 := eq_true p106
    replace q106 := eq_true q106
    go_wp2
    go_ret
    exact ⟨by first | rfl | (simp; done) | (simp [*]; done), by repeat (first | exact Drawn0.refl _ | apply Drawn0.step)⟩
   have H' := aM H
   clear H
   have p106 : 0 ≤ (x8_1 : Int) := of_decide_eq_true hQ
   have q106 : x8_1 < (l0.length : Int) := of_decide_eq_true hQ
   obtain ⟨ad106, e106, hx106_0⟩ := Kd.at_string HR0.out x8_1 p106 q106
   cases e106
   replace p106 := eq_true p106
   replace q106 := eq_true q106
   go_wp2
   go_roundg k1
   case measure => have := HK1.out; omega
   case rel => exact ⟨(wrap64 (x8_1 + 1)), vQ, H', ⟨by have := HK1.out; omega⟩, by repeat (first | exact Drawn0.refl _ | apply Drawn0.step)⟩
end Go.Proofs.YtjplnhdplpiogaaGreatDoor.M
end
section
namespace Go.Proofs.YtjplnhdplpiogaaGreatDoor.M
open Go.RowKit Go.Proofs.YtjplnhdplpiogaaGreatDoorW.PrintWords Go.Proofs.YtjplnhdplpiogaaGreatDoorW.PrintLast Go.Proofs.YtjplnhdplpiogaaGreatDoorW.PrintMore
set_option linter.unusedVariables false
set_option linter.unusedSimpArgs false
set_option maxRecDepth 100000
set_option maxHeartbeats 8000000
abbrev names7 : List ByteArray := [(⟨#[99, 111, 100, 101, 115, 112, 97, 99, 101, 114, 97, 110, 103, 101]⟩ : ByteArray), (⟨#[99, 105, 100, 114, 97, 110, 103, 101]⟩ : ByteArray), (⟨#[99, 105, 100, 99, 104, 97, 114]⟩ : ByteArray), (⟨#[110, 111, 116, 100, 101, 102, 114, 97, 110, 103, 101]⟩ : ByteArray), (⟨#[110, 111, 116, 100, 101, 102, 99, 104, 97, 114]⟩ : ByteArray), (⟨#[98, 102, 114, 97, 110, 103, 101]⟩ : ByteArray), (⟨#[98, 102, 99, 104, 97, 114]⟩ : ByteArray)]
def cutB (s : ByteArray) : ByteArray × Bool := if 5 ≤ s.size ∧ (s.extract 0 5).toList = ((⟨#[98, 101, 103, 105, 110]⟩ : ByteArray)).toList then (s.extract 5 s.size, true) else (s, false)
def idxAt (t : ByteArray) : List ByteArray → Int → Int
 | [], _ => -1
 | x :: l, i => if t.toList = x.toList then i else idxAt t l (i + 1)
def begunF (s : ByteArray) : Int × Bool := (idxAt (cutB s).1 names7 0 + 2, (cutB s).2 && decide (0 ≤ idxAt (cutB s).1 names7 0))
theorem idx_bounds (t : ByteArray) : ∀ (l : List ByteArray) (i : Int), 0 ≤ i → -1 ≤ idxAt t l i ∧ idxAt t l i ≤ i + l.length
 | [], i, h => by simp only [idxAt, List.length_nil]; omega
 | x :: l, i, h => by
  simp only [idxAt, List.length_cons]
  split
  ·omega
  ·have := idx_bounds t l (i + 1) (by omega)
   omega
theorem index_loop (l : List ByteArray) (t : ByteArray) (h64 : l.length ≤ 1000) : ∀ (d i : Nat), l.length = i + d → slices_Index_string_string.l0 (d + 1) l t (l.length : Int) (i : Int) = some (idxAt t (l.drop i) (i : Int))
 | 0, i, hd => by
  rw [slices_Index_string_string.l0, if_neg (by omega), List.drop_eq_nil_of_le (by omega)]
  rfl
 | d + 1, i, hd => by
  have hi : i < l.length := by omega
  have e1 : wrap64 ((i : Int) + 1) = ((i + 1 : Nat) : Int) := by unfold wrap64; omega
  have hr : rdOf ByteArray.empty l (i : Int) = l[i] := by simp [rdOf, List.getD, hi]
  rw [slices_Index_string_string.l0, if_pos (by omega), if_pos (by omega), if_pos (by omega), e1, index_loop l t h64 d (i + 1) (by omega), List.drop_eq_getElem_cons hi, hr]
  rw [show idxAt t (l[i] :: l.drop (i + 1)) (i : Int) = if t.toList = l[i].toList then (i : Int) else idxAt t (l.drop (i + 1)) ((i : Int) + 1) from rfl]
  split
  ·rfl
  ·rfl
theorem cut_eq (s : ByteArray) : strings_CutPrefix.f s (⟨#[98, 101, 103, 105, 110]⟩ : ByteArray) = some ((cutB s).1, (cutB s).2) := by
 have e5 : ((⟨#[98, 101, 103, 105, 110]⟩ : ByteArray)).size = 5 := rfl
 have hx : (((5 : Nat) : Int)).toNat = 5 := rfl
 unfold strings_CutPrefix.f stringslite_CutPrefix.f stringslite_HasPrefix.f cutB
 rw [e5]
 by_cases h : 5 ≤ s.size
 ·have h' : (s.size : Int) ≥ ((5 : Nat) : Int) := by omega
  rw [if_pos h', if_pos (by decide), if_pos (by omega), hx]
  by_cases h2 : (s.extract 0 5).toList = ((⟨#[98, 101, 103, 105, 110]⟩ : ByteArray)).toList
  ·rw [if_pos (show 5 ≤ s.size ∧ (s.extract 0 5).toList = ((⟨#[98, 101, 103, 105, 110]⟩ : ByteArray)).toList from ⟨h, h2⟩), beq_iff_eq.2 h2]
   simp only [Option.bind_some, if_true]
   rw [if_pos (show (((5 : Nat) : Int)) ≤ s.size by omega)]
   rfl
  ·rw [if_neg (show ¬ (5 ≤ s.size ∧ (s.extract 0 5).toList = ((⟨#[98, 101, 103, 105, 110]⟩ : ByteArray)).toList) from fun hh => h2 hh.2), beq_eq_false_iff_ne.2 h2]
   rfl
 ·rw [if_neg (show ¬ (s.size : Int) ≥ ((5 : Nat) : Int) by omega), if_neg (show ¬ (5 ≤ s.size ∧ (s.extract 0 5).toList = ((⟨#[98, 101, 103, 105, 110]⟩ : ByteArray)).toList) from fun hh => h hh.1)]
  rfl
theorem begun_calls (s : ByteArray) (w : World) : Calls Tryz.prog 55 #[.string s] w fun x w' => x = .returned (.tuple #[.int .i64 (begunF s).1, .bool (begunF s).2]) ∧ Below w.heap.size w w' := by
 have hu72 := Tryz.underlying72
 have HB := aM (Below.refl w.heap.size w)
 have hc := aM (cut_eq s)
 obtain ⟨kb, kI, hkI, hki, hb⟩ : ∃ (b : Bool) (k : Int), idxAt (cutB s).1 names7 0 = k ∧ (-1 ≤ k ∧ k ≤ 7) ∧ decide (0 ≤ k) = b := ⟨_, _, rfl, by have := idx_bounds (cutB s).1 names7 0 (by omega); exact this, rfl⟩
 have hI := aM (show slices_Index_string_string.f 8 names7 (cutB s).1 = some kI by rw [← hkI]; exact index_loop names7 (cutB s).1 (by decide) 7 0 rfl)
 have hF : begunF s = (kI + 2, (cutB s).2 && kb) := by unfold begunF; rw [hkI, hb]
 rw [hF]
 obtain ⟨t, b, ht, hb2⟩ : ∃ t b, (cutB s).1 = t ∧ (cutB s).2 = b := ⟨_, _, rfl, rfl⟩
 rw [ht, hb2] at hc
 rw [ht] at hI
 rw [hb2]
 have hw : wrap64 (kI + 2) = kI + 2 := by unfold wrap64; omega
 clear hkI hki hF ht hb2
 go_enter Tryz.func55, Tryz.ntmps55
 go_wp2_with (first | (go_at_call 80; refine (strings_CutPrefix.calls _ _ _ _ _ hc.out).mono ?_; rintro x w1 ⟨rfl, hd⟩; replace HB := sB hd.below; clear hd) | (go_at_call 25; refine (names_calls _).mono ?_; rintro x w2 ⟨rfl, hb2⟩; replace HB := sB hb2; clear hb2))
 have hnw : (w2.alloc (.cells namesV 72)).heap[w2.heap.size]? = some (.cells namesV 72 (0, 0)) := blk_new _ _
 have hrd : Kd.C Kd.string (w2.alloc (.cells namesV 72)) (some ⟨w2.heap.size, 2, none⟩) names7.length names7 := by
  refine Kd.C_of_reads (d := ⟨#[]⟩) ⟨rfl, by decide, fun _ => ⟨_, rfl, fun j hj => ?_⟩⟩
  obtain rfl | rfl | rfl | rfl | rfl | rfl | rfl : j = 0 ∨ j = 1 ∨ j = 2 ∨ j = 3 ∨ j = 4 ∨ j = 5 ∨ j = 6 := by have : names7.length = 7 := rfl; omega
  ·exact blk_cell hnw 2
  ·exact blk_cell hnw 3
  ·exact blk_cell hnw 4
  ·exact blk_cell hnw 5
  ·exact blk_cell hnw 6
  ·exact blk_cell hnw 7
  ·exact blk_cell hnw 8
 replace HB := aM (below_alloc HB.out (.cells namesV 72))
 clear hnw
 generalize w2.alloc (.cells namesV 72) = V at hrd HB ⊢
 refine (slices_Index_string_string.calls 8 _ 7 names7 t kI _ hrd (by decide) hI.out).mono ?_
 rintro x w3 ⟨rfl, hd⟩
 replace HB := sB hd.below
 clear hd hrd
 cases b
 ·go_wp2
  go_ret2
  exact ⟨by simp only [hw]; rfl, bQ⟩
 ·go_wp2
  go_ret2
  exact ⟨by simp only [hw, Bool.true_and]; rfl, bQ⟩
end Go.Proofs.YtjplnhdplpiogaaGreatDoor.M
end
section
namespace Go.Proofs.YtjplnhdplpiogaaGreatDoor.M
open Go.RowKit Go.Proofs.YtjplnhdplpiogaaGreatDoorW.PrintWords Go.Proofs.YtjplnhdplpiogaaGreatDoorW.PrintLast Go.Proofs.YtjplnhdplpiogaaGreatDoorW.PrintMore
set_option linter.unusedVariables false
set_option linter.unusedSimpArgs false
set_option maxRecDepth 100000
set_option maxHeartbeats 8000000
theorem KeepBut.weak {w w1 : World} {g : Nat} (h : KeepBut w w1 g none) (row : Option Nat) : KeepBut w w1 g row := ⟨h.1, fun i hi hg _ => h.2 i hi hg (by simp)⟩
theorem R_keepT {α : Type} {d : Kd α} {e base g t : Nat} {w w1 : World} {ok : Nat → Prop} {v : Value} {xs : List α} {cs : Array Value} (h : d.R e w base ok v xs) (hb : w.heap[g]? = some (.cells cs t (0, 0))) (ht : ∀ q, q ∈ e :: d.E → q ≠ t) (hk : KeepBut w w1 g none) : d.R e w1 base ok v xs :=
 Kd.R_mono (Kd.R_keep (Kd.R_bound h) hk (fun k hq hkg => by
  subst hkg
  obtain ⟨q, hq, cells, hc⟩ := hq.2.2.2
  rw [hb] at hc
  injection hc with h1
  injection h1 with _ h2
  exact ht q hq h2.symm)) (fun k hk => hk.1)
theorem al_cell0 {w1 : World} (o : Obj) {a : Addr} {v : Value} (h : w1.cell? a = some v) : (w1.alloc o).cell? a = some v := (World.cell?_alloc_lt w1 o a (World.block_lt_of_cell? _ _ h)).trans h
section
variable {w0 w : World} {g : Nat} {A : Option Addr} {c : Nat} {L : List S40} {i e : Int} {ov iv : Value}
theorem pairs_other (hS : St w0 w g A c L i e ov iv) (h0 : 0 ≤ i) (h1 : i < 9223372036854775807) (n m : Nat) (Ao : Option Addr) (hov : ov = .slice Ao n m) (t : S40) (hk : t.f0 < 6 ∨ 11 < t.f0) :
  Calls Tryz.prog 32 #[.pointer (some ⟨g, 0, none⟩), .agg (tok4 t)] w fun x w' => x = .returned (.tuple #[]) ∧ St w0 w' g A c L (i + 1) e ov iv ∧ KeepBut w w' g none := by
 subst hov
 have hu40 := Tryz.underlying40
 have hu58 := Tryz.underlying58
 have hw : wrap64 (i + 1) = i + 1 := by unfold wrap64; omega
 have c6 : (t.f0 == 6) = false := beq_eq_false_iff_ne.mpr (by omega)
 have c7 : (t.f0 == 7) = false := beq_eq_false_iff_ne.mpr (by omega)
 have c8 : (t.f0 == 8) = false := beq_eq_false_iff_ne.mpr (by omega)
 have c9 : (t.f0 == 9) = false := beq_eq_false_iff_ne.mpr (by omega)
 have c10 : (t.f0 == 10) = false := beq_eq_false_iff_ne.mpr (by omega)
 have c11 : (t.f0 == 11) = false := beq_eq_false_iff_ne.mpr (by omega)
 have hb : Below w.heap.size w (w.alloc (.cells #[.int .i64 t.f0, .int .i64 t.f1, .int .i64 t.f2, .string t.f3] 40)) := below_alloc (Below.refl _ _) _
 have HS := aM (hS.of_below hb)
 have HK := aM (KeepBut.of_below hb g none)
 clear hb hS hk
 obtain ⟨sc0, sc1, sc2, sc3, sc4, sf0, sf1, sf2, sf3, sf4⟩ := b5 HS.out.blk
 go_enter Tryz.func32, Tryz.ntmps32
 go_wp2_with (fail)
 go_end0
 have HB := aM HS.out.below
 have GE := aM HS.out.ge
 have HB2 := aM HS.out.blk
 exact ⟨rfl, ⟨bQ, HS.out.ge, kQ⟩, kpQ⟩
theorem pairs_open (hS : St w0 w g A c L i e ov iv) (h0 : 0 ≤ i) (h1 : i < 9223372036854775807) (opn : List Int) (hO : (Kd.int .i64).R 3 w w0.heap.size (fun _ => True) ov opn) (t : S40) (hk : t.f0 = 6 ∨ t.f0 = 8 ∨ t.f0 = 10) (hn : opn.length < 32) :
  Calls Tryz.prog 32 #[.pointer (some ⟨g, 0, none⟩), .agg (tok4 t)] w fun x w' => x = .returned (.tuple #[]) ∧ ∃ ov', St w0 w' g A c L (i + 1) e ov' iv ∧ (Kd.int .i64).R 3 w' w0.heap.size (fun _ => True) ov' (opn ++ [t.f0]) ∧ KeepBut w w' g ov.ownBlock ∧ (ov'.ownBlock = ov.ownBlock ∨ ∃ b, ov'.ownBlock = some b ∧ w.heap.size ≤ b) := by
 obtain ⟨Ao, m, rfl⟩ := Kd.R_slice hO
 have hu40 := Tryz.underlying40
 have hu58 := Tryz.underlying58
 have hw : wrap64 (i + 1) = i + 1 := by unfold wrap64; omega
 have hn32 : (((opn.length : Nat) : Int) == 32) = false := beq_eq_false_iff_ne.mpr (by omega)
 have hb : Below w.heap.size w (w.alloc (.cells #[.int .i64 t.f0, .int .i64 t.f1, .int .i64 t.f2, .string t.f3] 40)) := below_alloc (Below.refl _ _) _
 have HS := aM (hS.of_below hb)
 have HK := aM (KeepBut.of_below hb g none)
 have HO := aM (Kd.R_below hO hb)
 have HN := aM hn
 clear hS hO hn
 have BT := aM (blk_new w (.cells #[.int .i64 t.f0, .int .i64 t.f1, .int .i64 t.f2, .string t.f3] 40))
 have hsz : (w.alloc (.cells #[.int .i64 t.f0, .int .i64 t.f1, .int .i64 t.f2, .string t.f3] 40)).heap.size = w.heap.size + 1 := Array.size_push ..
 obtain ⟨sc0, sc1, sc2, sc3, sc4, sf0, sf1, sf2, sf3, sf4⟩ := b5 HS.out.blk
 rcases hk with hk | hk | hk
 ·have c6 : (t.f0 == 6) = true := beq_iff_eq.mpr hk
  clear hk
  go_enter Tryz.func32, Tryz.ntmps32
  go_wp2_with (fail)
  refine norm_w (F := fun W => St w0 W g A c L i e (.slice Ao opn.length m) iv ∧ W.heap[w.heap.size]? = some (.cells (tok4 t) 40 (0, 0)) ∧ (Kd.int .i64).R 3 W w0.heap.size (fun _ => True) (.slice Ao opn.length m) opn ∧ KeepBut w W g none ∧ w.heap.size ≤ W.heap.size) ⟨HS.out, BT.out, HO.out, HK.out, (below_alloc (Below.refl w.heap.size w) _).size⟩ ?_
  clear HS BT HO HK hsz sc0 sc1 sc2 sc3 sc4 sf0 sf1 sf2 sf3 sf4
  rintro w4 ⟨hs4, hbt, ho4, hk4, hsz⟩
  have HO := aM ho4
  have HK := aM hk4
  have HB := aM hs4.below
  have BG := aM hs4.blk
  have GE := aM hs4.ge
  have hgo := aM (Kd.R_ne ho4 hs4.blk (by decide))
  have HZ := aM hsz
  obtain ⟨sc0, sc1, sc2, sc3, sc4, sf0, sf1, sf2, sf3, sf4⟩ := b5 hs4.blk
  obtain ⟨tk0, tk1, tk2, tk3, tm0, tm1, tm2, tm3⟩ := b4 (aM hbt)
  have a3 := al_cell0 (.cells #[.int .i64 t.f0] 3) sc3
  have a0 := al_cell0 (.cells #[.int .i64 t.f0] 3) tk0
  clear hs4 ho4 hk4 hbt hsz
  go_region_law (first | (refine Kd.R_append_step (Kd.int .i64) (w0 := w0) (W := w4.drew) w0.heap.size (by rfl) (.tmp 25) (.tmp 28) 47 3 (.int .i64 0) 8 rfl Tryz.underlying47 info3 rfl (by decide) (by omega) (.slice Ao opn.length m) opn t.f0 [.int .i64 t.f0] (fun _ => True) (fun _ => False) rfl rfl ?aP (fun _ hk => hk.elim) ?aF ?aO ?aB ?aS ?aL ?_; (case aP => exact rfl); (case aB => exact bQ); (case aF => exact (fun _ _ => trivial)); (case aO => exact (mQ HO)); (case aS => exact (below_size bQ)); (case aL => have := HN.out; omega); intro v5 w5 ho5 hb5 hg5 hat5; obtain ⟨A5, m5, e5⟩ := Kd.R_slice ho5; subst e5; have BG5 := aM (blk_grown (blk_drew BG.out) hg5 hgo.out); obtain ⟨c0, c1, c2, c3, c4, f0, f1, f2, f3, f4⟩ := b5 BG5.out; have HO5 := aM ho5; have HB5 := aM hb5; have HG5 := aM hg5; have HT5 := aM hat5; clear ho5 hb5 hg5 hat5))
  all_goals go_wp2_with (fail)
  all_goals go_end0
  all_goals (replace HB := HB5; have HKg := aM (KeepBut.set_ (KeepBut.set_ (KeepBut.refl w5 g none) 3 (.slice A5 (opn.length + 1) m5)) 1 (.int .i64 (i + 1))))
  all_goals exact ⟨rfl, .slice A5 (opn.length + 1) m5, ⟨bQ, GE.out, kQ⟩, (by have := R_keepT HO5.out BG5.out (by decide) HKg.out; rw [List.length_append] at this; exact this), KeepBut.set_ (KeepBut.set_ (KeepBut.trans (KeepBut.weak HK.out _) (KeepBut.of_grown HG5.out g) (.inl rfl)) 3 _) 1 _, HT5.out.imp (fun h => (by rw [List.length_append] at h; exact h)) (fun ⟨b, h1, h2⟩ => ⟨b, (by rw [List.length_append] at h1; exact h1), Nat.le_trans HZ.out h2⟩)⟩
 ·have c6 : (t.f0 == 6) = false := beq_eq_false_iff_ne.mpr (by omega)
  have c8 : (t.f0 == 8) = true := beq_iff_eq.mpr hk
  clear hk
  go_enter Tryz.func32, Tryz.ntmps32
  go_wp2_with (fail)
  refine norm_w (F := fun W => St w0 W g A c L i e (.slice Ao opn.length m) iv ∧ W.heap[w.heap.size]? = some (.cells (tok4 t) 40 (0, 0)) ∧ (Kd.int .i64).R 3 W w0.heap.size (fun _ => True) (.slice Ao opn.length m) opn ∧ KeepBut w W g none ∧ w.heap.size ≤ W.heap.size) ⟨HS.out, BT.out, HO.out, HK.out, (below_alloc (Below.refl w.heap.size w) _).size⟩ ?_
  clear HS BT HO HK hsz sc0 sc1 sc2 sc3 sc4 sf0 sf1 sf2 sf3 sf4
  rintro w4 ⟨hs4, hbt, ho4, hk4, hsz⟩
  have HO := aM ho4
  have HK := aM hk4
  have HB := aM hs4.below
  have BG := aM hs4.blk
  have GE := aM hs4.ge
  have hgo := aM (Kd.R_ne ho4 hs4.blk (by decide))
  have HZ := aM hsz
  obtain ⟨sc0, sc1, sc2, sc3, sc4, sf0, sf1, sf2, sf3, sf4⟩ := b5 hs4.blk
  obtain ⟨tk0, tk1, tk2, tk3, tm0, tm1, tm2, tm3⟩ := b4 (aM hbt)
  have a3 := al_cell0 (.cells #[.int .i64 t.f0] 3) sc3
  have a0 := al_cell0 (.cells #[.int .i64 t.f0] 3) tk0
  clear hs4 ho4 hk4 hbt hsz
  go_region_law (first | (refine Kd.R_append_step (Kd.int .i64) (w0 := w0) (W := w4.drew) w0.heap.size (by rfl) (.tmp 25) (.tmp 28) 47 3 (.int .i64 0) 8 rfl Tryz.underlying47 info3 rfl (by decide) (by omega) (.slice Ao opn.length m) opn t.f0 [.int .i64 t.f0] (fun _ => True) (fun _ => False) rfl rfl ?aP (fun _ hk => hk.elim) ?aF ?aO ?aB ?aS ?aL ?_; (case aP => exact rfl); (case aB => exact bQ); (case aF => exact (fun _ _ => trivial)); (case aO => exact (mQ HO)); (case aS => exact (below_size bQ)); (case aL => have := HN.out; omega); intro v5 w5 ho5 hb5 hg5 hat5; obtain ⟨A5, m5, e5⟩ := Kd.R_slice ho5; subst e5; have BG5 := aM (blk_grown (blk_drew BG.out) hg5 hgo.out); obtain ⟨c0, c1, c2, c3, c4, f0, f1, f2, f3, f4⟩ := b5 BG5.out; have HO5 := aM ho5; have HB5 := aM hb5; have HG5 := aM hg5; have HT5 := aM hat5; clear ho5 hb5 hg5 hat5))
  all_goals go_wp2_with (fail)
  all_goals go_end0
  all_goals (replace HB := HB5; have HKg := aM (KeepBut.set_ (KeepBut.set_ (KeepBut.refl w5 g none) 3 (.slice A5 (opn.length + 1) m5)) 1 (.int .i64 (i + 1))))
  all_goals exact ⟨rfl, .slice A5 (opn.length + 1) m5, ⟨bQ, GE.out, kQ⟩, (by have := R_keepT HO5.out BG5.out (by decide) HKg.out; rw [List.length_append] at this; exact this), KeepBut.set_ (KeepBut.set_ (KeepBut.trans (KeepBut.weak HK.out _) (KeepBut.of_grown HG5.out g) (.inl rfl)) 3 _) 1 _, HT5.out.imp (fun h => (by rw [List.length_append] at h; exact h)) (fun ⟨b, h1, h2⟩ => ⟨b, (by rw [List.length_append] at h1; exact h1), Nat.le_trans HZ.out h2⟩)⟩
 ·have c6 : (t.f0 == 6) = false := beq_eq_false_iff_ne.mpr (by omega)
  have c8 : (t.f0 == 8) = false := beq_eq_false_iff_ne.mpr (by omega)
  have c10 : (t.f0 == 10) = true := beq_iff_eq.mpr hk
  clear hk
  go_enter Tryz.func32, Tryz.ntmps32
  go_wp2_with (fail)
  refine norm_w (F := fun W => St w0 W g A c L i e (.slice Ao opn.length m) iv ∧ W.heap[w.heap.size]? = some (.cells (tok4 t) 40 (0, 0)) ∧ (Kd.int .i64).R 3 W w0.heap.size (fun _ => True) (.slice Ao opn.length m) opn ∧ KeepBut w W g none ∧ w.heap.size ≤ W.heap.size) ⟨HS.out, BT.out, HO.out, HK.out, (below_alloc (Below.refl w.heap.size w) _).size⟩ ?_
  clear HS BT HO HK hsz sc0 sc1 sc2 sc3 sc4 sf0 sf1 sf2 sf3 sf4
  rintro w4 ⟨hs4, hbt, ho4, hk4, hsz⟩
  have HO := aM ho4
  have HK := aM hk4
  have HB := aM hs4.below
  have BG := aM hs4.blk
  have GE := aM hs4.ge
  have hgo := aM (Kd.R_ne ho4 hs4.blk (by decide))
  have HZ := aM hsz
  obtain ⟨sc0, sc1, sc2, sc3, sc4, sf0, sf1, sf2, sf3, sf4⟩ := b5 hs4.blk
  obtain ⟨tk0, tk1, tk2, tk3, tm0, tm1, tm2, tm3⟩ := b4 (aM hbt)
  have a3 := al_cell0 (.cells #[.int .i64 t.f0] 3) sc3
  have a0 := al_cell0 (.cells #[.int .i64 t.f0] 3) tk0
  clear hs4 ho4 hk4 hbt hsz
  go_region_law (first | (refine Kd.R_append_step (Kd.int .i64) (w0 := w0) (W := w4.drew) w0.heap.size (by rfl) (.tmp 25) (.tmp 28) 47 3 (.int .i64 0) 8 rfl Tryz.underlying47 info3 rfl (by decide) (by omega) (.slice Ao opn.length m) opn t.f0 [.int .i64 t.f0] (fun _ => True) (fun _ => False) rfl rfl ?aP (fun _ hk => hk.elim) ?aF ?aO ?aB ?aS ?aL ?_; (case aP => exact rfl); (case aB => exact bQ); (case aF => exact (fun _ _ => trivial)); (case aO => exact (mQ HO)); (case aS => exact (below_size bQ)); (case aL => have := HN.out; omega); intro v5 w5 ho5 hb5 hg5 hat5; obtain ⟨A5, m5, e5⟩ := Kd.R_slice ho5; subst e5; have BG5 := aM (blk_grown (blk_drew BG.out) hg5 hgo.out); obtain ⟨c0, c1, c2, c3, c4, f0, f1, f2, f3, f4⟩ := b5 BG5.out; have HO5 := aM ho5; have HB5 := aM hb5; have HG5 := aM hg5; have HT5 := aM hat5; clear ho5 hb5 hg5 hat5))
  all_goals go_wp2_with (fail)
  all_goals go_end0
  all_goals (replace HB := HB5; have HKg := aM (KeepBut.set_ (KeepBut.set_ (KeepBut.refl w5 g none) 3 (.slice A5 (opn.length + 1) m5)) 1 (.int .i64 (i + 1))))
  all_goals exact ⟨rfl, .slice A5 (opn.length + 1) m5, ⟨bQ, GE.out, kQ⟩, (by have := R_keepT HO5.out BG5.out (by decide) HKg.out; rw [List.length_append] at this; exact this), KeepBut.set_ (KeepBut.set_ (KeepBut.trans (KeepBut.weak HK.out _) (KeepBut.of_grown HG5.out g) (.inl rfl)) 3 _) 1 _, HT5.out.imp (fun h => (by rw [List.length_append] at h; exact h)) (fun ⟨b, h1, h2⟩ => ⟨b, (by rw [List.length_append] at h1; exact h1), Nat.le_trans HZ.out h2⟩)⟩
end
end Go.Proofs.YtjplnhdplpiogaaGreatDoor.M
end
section
namespace Go.Proofs.YtjplnhdplpiogaaGreatDoor.M
open Go.RowKit Go.Proofs.YtjplnhdplpiogaaGreatDoorW.PrintWords Go.Proofs.YtjplnhdplpiogaaGreatDoorW.PrintLast Go.Proofs.YtjplnhdplpiogaaGreatDoorW.PrintMore
set_option linter.unusedVariables false
set_option linter.unusedSimpArgs false
set_option maxRecDepth 100000
set_option maxHeartbeats 8000000
section
variable {w0 w : World} {g : Nat} {A : Option Addr} {c : Nat} {L : List S40} {i e : Int} {ov iv : Value}
theorem rd_last (pre : List Int) (k : Int) : rd (pre ++ [k]) (pre.length : Int) = k := by simp [rd]
theorem pairs_close (hS : St w0 w g A c L i e ov iv) (h0 : 0 ≤ i) (h1 : i < 9223372036854775807) (pre : List Int) (k : Int) (hO : (Kd.int .i64).R 3 w w0.heap.size (fun _ => True) ov (pre ++ [k])) (t : S40) (hk : t.f0 = 7 ∨ t.f0 = 9 ∨ t.f0 = 11) (ht : t.f0 = k + 1) :
  Calls Tryz.prog 32 #[.pointer (some ⟨g, 0, none⟩), .agg (tok4 t)] w fun x w' => x = .returned (.tuple #[]) ∧ ∃ ov', St w0 w' g A c L (i + 1) e ov' iv ∧ (Kd.int .i64).R 3 w' w0.heap.size (fun _ => True) ov' pre ∧ KeepBut w w' g none ∧ ov'.ownBlock = ov.ownBlock := by
 obtain ⟨Ao, m, rfl⟩ := Kd.R_slice hO
 have hlen : (pre ++ [k]).length = pre.length + 1 := by simp
 have hO2 := hO
 rw [hlen] at hO2 hS ⊢
 have hu40 := Tryz.underlying40
 have hu47 := Tryz.underlying47
 have hu58 := Tryz.underlying58
 have hw : wrap64 (i + 1) = i + 1 := by unfold wrap64; omega
 have hmx : (pre.length : Int) + 1 ≤ 9223372036854775807 := by have := (Kd.C_max (Kd.R_reads' hO).2.2); rw [hlen] at this; omega
 have hw2 : wrap64 (((pre.length : Int) + 1) - 1) = pre.length := by unfold wrap64; omega
 have hw3 : wrap64 (k + 1) = k + 1 := by unfold wrap64; omega
 have hn0 : (((pre.length : Int) + 1) == 0) = false := beq_eq_false_iff_ne.mpr (by omega)
 have hb : Below w.heap.size w (w.alloc (.cells #[.int .i64 t.f0, .int .i64 t.f1, .int .i64 t.f2, .string t.f3] 40)) := below_alloc (Below.refl _ _) _
 obtain ⟨ad, hA, hx⟩ := Kd.at_int (Kd.C_below (Kd.R_reads' hO).2.2 hb) (pre.length : Int) (by omega) (by rw [hlen]; omega)
 subst hA
 rw [rd_last] at hx
 have hxx : (((pre.length : Nat) : Int)).toNat = pre.length := by omega
 rw [hxx] at hx
 have HS := aM (hS.of_below hb)
 have HK := aM (KeepBut.of_below hb g none)
 have HO := aM (Kd.R_below hO hb)
 obtain ⟨i3, hi3, -⟩ : ∃ i3, Tryz.prog.info? 3 = some i3 ∧ True := by cases h : Tryz.prog.info? 3 with
  | none => have := info3; rw [h] at this; cases this
  | some x => exact ⟨x, rfl, trivial⟩
 have hcap : pre.length + 1 ≤ m := by have := (Kd.R_reads' hO).2.1; rw [hlen] at this; exact this
 have hcut := cut_to (P := Tryz.prog) 47 3 .i64 Tryz.underlying47 hi3 (some ad) (pre.length + 1) m (pre.length : Int) (by omega) (by omega) hcap
 have p9 := eq_true (show (0 : Int) ≤ pre.length by omega)
 have q9 := eq_true (show (pre.length : Int) < pre.length + 1 by omega)
 have BT := aM (blk_new w (.cells #[.int .i64 t.f0, .int .i64 t.f1, .int .i64 t.f2, .string t.f3] 40))
 have hkk : ((k + 1) != t.f0) = false := bne_eq_false_iff_eq.mpr ht.symm
 clear hS hO hO2 hb ht
 obtain ⟨sc0, sc1, sc2, sc3, sc4, sf0, sf1, sf2, sf3, sf4⟩ := b5 HS.out.blk
 obtain ⟨tk0, tk1, tk2, tk3, tm0, tm1, tm2, tm3⟩ := b4 BT
 have c6 : (t.f0 == 6) = false := beq_eq_false_iff_ne.mpr (by omega)
 have c8 : (t.f0 == 8) = false := beq_eq_false_iff_ne.mpr (by omega)
 have c10 : (t.f0 == 10) = false := beq_eq_false_iff_ne.mpr (by omega)
 rcases hk with hk | hk | hk
 ·have c7 : (t.f0 == 7) = true := beq_iff_eq.mpr hk
  clear hk
  go_enter Tryz.func32, Tryz.ntmps32
  go_wp2_with (fail)
  go_quiet (fail)
  try go_wp2_with (fail)
  go_end0
  have HB := aM HS.out.below
  have GE := aM HS.out.ge
  have BG := aM HS.out.blk
  have HR := Kd.R_take HO.out (m := pre.length) (by rw [hlen]; omega)
  rw [List.take_left] at HR
  have HR2 := aM (Kd.R_drewN HR nq)
  have BG2 := aM (blk_drewN BG.out nq)
  exact ⟨rfl, .slice (some ad) pre.length m, ⟨bQ, GE.out, kQ⟩, R_keepT HR2.out BG2.out (by decide) (KeepBut.set_ (KeepBut.set_ (KeepBut.refl _ g none) 3 _) 1 _), kpQ, rfl⟩
 ·have c7 : (t.f0 == 7) = false := beq_eq_false_iff_ne.mpr (by omega)
  have c9 : (t.f0 == 9) = true := beq_iff_eq.mpr hk
  clear hk
  go_enter Tryz.func32, Tryz.ntmps32
  go_wp2_with (fail)
  go_quiet (fail)
  try go_wp2_with (fail)
  go_end0
  have HB := aM HS.out.below
  have GE := aM HS.out.ge
  have BG := aM HS.out.blk
  have HR := Kd.R_take HO.out (m := pre.length) (by rw [hlen]; omega)
  rw [List.take_left] at HR
  have HR2 := aM (Kd.R_drewN HR nq)
  have BG2 := aM (blk_drewN BG.out nq)
  exact ⟨rfl, .slice (some ad) pre.length m, ⟨bQ, GE.out, kQ⟩, R_keepT HR2.out BG2.out (by decide) (KeepBut.set_ (KeepBut.set_ (KeepBut.refl _ g none) 3 _) 1 _), kpQ, rfl⟩
 ·have c7 : (t.f0 == 7) = false := beq_eq_false_iff_ne.mpr (by omega)
  have c9 : (t.f0 == 9) = false := beq_eq_false_iff_ne.mpr (by omega)
  have c11 : (t.f0 == 11) = true := beq_iff_eq.mpr hk
  clear hk
  go_enter Tryz.func32, Tryz.ntmps32
  go_wp2_with (fail)
  go_quiet (fail)
  try go_wp2_with (fail)
  go_end0
  have HB := aM HS.out.below
  have GE := aM HS.out.ge
  have BG := aM HS.out.blk
  have HR := Kd.R_take HO.out (m := pre.length) (by rw [hlen]; omega)
  rw [List.take_left] at HR
  have HR2 := aM (Kd.R_drewN HR nq)
  have BG2 := aM (blk_drewN BG.out nq)
  exact ⟨rfl, .slice (some ad) pre.length m, ⟨bQ, GE.out, kQ⟩, R_keepT HR2.out BG2.out (by decide) (KeepBut.set_ (KeepBut.set_ (KeepBut.refl _ g none) 3 _) 1 _), kpQ, rfl⟩
end
end Go.Proofs.YtjplnhdplpiogaaGreatDoor.M
end
section
namespace Go.Proofs.YtjplnhdplpiogaaGreatDoor.M
open Go.RowKit Go.Proofs.YtjplnhdplpiogaaGreatDoorW.PrintWords Go.Proofs.YtjplnhdplpiogaaGreatDoorW.PrintLast Go.Proofs.YtjplnhdplpiogaaGreatDoorW.PrintMore
set_option linter.unusedVariables false
set_option linter.unusedSimpArgs false
set_option maxRecDepth 100000
set_option maxHeartbeats 8000000
theorem info43 : (Tryz.prog.info? 43).map (fun i => (i.zero, i.size, i.bytes)) = some (some (.agg #[.int .i64 0, .int .i64 0, .string (⟨#[]⟩ : ByteArray), .int .i64 0, .int .i64 0, .int .i64 0, .string (⟨#[]⟩ : ByteArray), .slice none 0 0]), 8, 96) := by kernel_rfl
theorem info50 : (Tryz.prog.info? 50).map (fun i => (i.zero, i.size, i.bytes)) = some (some (.agg #[.int .i64 0, .int .i64 0, .int .i64 0, .int .i64 0, .int .i64 0, .slice none 0 0, .slice none 0 0]), 7, 88) := by kernel_rfl
section
variable {w0 w W w1 : World} {g : Nat} {A : Option Addr} {c : Nat} {L : List S40} {i e : Int} {ov iv : Value} {row : Option Nat}
theorem St.drew (h : St w0 w g A c L i e ov iv) : St w0 w.drew g A c L i e ov iv := ⟨below_drew1 h.below, h.ge, blk_drew h.blk⟩
theorem St.drewN (h : St w0 w g A c L i e ov iv) (n : Nat) : St w0 (w.drewN n) g A c L i e ov iv := ⟨pw_below_drewN h.below n, h.ge, blk_drewN h.blk n⟩
theorem St.alloc (h : St w0 w g A c L i e ov iv) (o : Obj) : St w0 (w.alloc o) g A c L i e ov iv := h.of_below (below_alloc (Below.refl _ _) o)
theorem stC (h : Aside0 (St w0 w g A c L i e ov iv)) (c' : St w0 w g A c L i e ov iv → St w0 W g A c L i e ov iv := by intro h; (with_reducible repeat first | exact h | apply St.drewN | apply St.drew | apply St.alloc)) : St w0 W g A c L i e ov iv := c' h.out
theorem stQ (h : Aside0 (St w0 w g A c L i e ov iv)) (hb : Below W.heap.size W w1) (c' : St w0 w g A c L i e ov iv → St w0 W g A c L i e ov iv := by intro h; (with_reducible repeat first | exact h | apply St.drewN | apply St.drew | apply St.alloc)) : Aside0 (St w0 w1 g A c L i e ov iv) := ⟨(c' h.out).of_below hb⟩
theorem ownrow {α : Type} {d : Kd α} {e base B : Nat} {w : World} {ok : Nat → Prop} {v : Value} {xs : List α} (h : d.R e w base ok v xs) (hok : ∀ k, ok k → B ≤ k) : v.ownBlock = none ∨ ∃ b, v.ownBlock = some b ∧ B ≤ b := by
 cases hv : v.ownBlock with
 | none => exact .inl rfl
 | some b => exact .inr ⟨b, rfl, hok b (h.1 b hv)⟩
theorem kK2 {w W w1 : World} {g : Nat} {o : Obj} (h : Aside0 (w.heap[g]? = some o)) (hb : Below W.heap.size W w1) (c' : w.heap[g]? = some o → W.heap[g]? = some o := by intro h; (with_reducible repeat first | exact h | apply blk_drewN | apply blk_drew | apply blk_alloc)) : Aside0 (w1.heap[g]? = some o) := ⟨blk_below (c' h.out) hb⟩
theorem keepQ (h : Aside0 (KeepBut w0 w g row)) (hb : Below W.heap.size W w1) (c' : KeepBut w0 w g row → KeepBut w0 W g row := by intro h; (with_reducible repeat first | exact h | apply keep_drewN | apply keep_drew | apply keep_alloc)) : Aside0 (KeepBut w0 w1 g row) := ⟨by
 refine ⟨Nat.le_trans (c' h.out).1 hb.size, fun i hi hg hr => ?_⟩
 exact (hb.block i (Nat.lt_of_lt_of_le hi (c' h.out).1)).trans ((c' h.out).2 i hi hg hr)⟩
end
/-- An entry of one code. -/
def entF (L : List S40) (i : Int) : Option S50 :=
 if i + 1 < L.length ∧ (rd_T40 L i).f0 = 4 ∧ (rd_T40 L i).f3.size ≤ 140737488351232 ∧ (valF (rd_T40 L i).f3).2.2 = true ∧ (rd_T40 L (i + 1)).f0 = 1 ∧ 0 ≤ (rd_T40 L (i + 1)).f2 ∧ (rd_T40 L (i + 1)).f2 ≤ 65535 then
  some ⟨⟨(valF (rd_T40 L i).f3).1, (valF (rd_T40 L i).f3).2.1⟩, ⟨(valF (rd_T40 L i).f3).1, (valF (rd_T40 L i).f3).2.1⟩, (rd_T40 L (i + 1)).f2, [], []⟩ else none
/-- The entries of a section of codes, and where it ends. -/
def secF (L : List S40) (nm : ByteArray) : Nat → Int → List S50 → Option (List S50 × Int)
 | 0, _, _ => none
 | k + 1, i, es => if i < L.length then (if (rd_T40 L i).f0 = 3 ∧ (rd_T40 L i).f3.toList = nm.toList then some (es, i) else if es.length < 1000000 then (entF L i).bind fun x => secF L nm k (i + 2) (es ++ [x]) else none) else none
abbrev endOf (kind : Int) : ByteArray := (⟨#[101, 110, 100]⟩ : ByteArray) ++ nameOf kind
section
variable {w0 w : World} {g : Nat} {A : Option Addr} {c : Nat} {L : List S40} {i e : Int} {ov iv : Value}
theorem section_walk (hC : Kd.C k40 w0 A L.length L) (hS : St w0 w g A c L i e ov iv) (h0 : 0 ≤ i) (kind at' n : Int) (hkk : kind = 2 ∨ kind = 3 ∨ kind = 4 ∨ kind = 5 ∨ kind = 6 ∨ kind = 7 ∨ kind = 8) (hk46 : entryFn kind = 107) (k : Nat) (es : List S50) (j : Int) (hF : secF L (endOf kind) k i [] = some (es, j)) (hn : (es.length : Int) = n) (its : List S43) (hI : k43.R 43 w w0.heap.size (fun k => some k ≠ ov.ownBlock) iv its) (hlen : its.length < 1000000) (hO : ∀ b, ov.ownBlock = some b → b < w.heap.size) :
  Calls Tryz.prog 57 #[.pointer (some ⟨g, 0, none⟩), .int .i64 kind, .int .i64 at', .int .i64 n] w fun x w' => x = .returned (.tuple #[]) ∧ ∃ iv', St w0 w' g A c L (j + 1) e ov iv' ∧ k43.R 43 w' w0.heap.size (fun k => some k ≠ ov.ownBlock) iv' (its ++ [⟨kind, at', (⟨#[]⟩ : ByteArray), z40, es⟩]) ∧ KeepBut w w' g iv.ownBlock ∧ (iv'.ownBlock = iv.ownBlock ∨ ∃ b, iv'.ownBlock = some b ∧ w.heap.size ≤ b) := by
 obtain ⟨Ai, ci, hiv⟩ := Kd.R_slice hI
 have hL : (L.length : Int) ≤ 9223372036854775807 := by have := Kd.C_max hC; omega
 have hu40 := Tryz.underlying40
 have hu43 := Tryz.underlying43
 have hu50 := Tryz.underlying50
 have hu58 := Tryz.underlying58
 have hix := index_names kind hkk
 have hcat : ∀ w : World, (Op.stringOp .add (⟨#[101, 110, 100]⟩ : ByteArray) (nameOf kind)).run Tryz.prog w = .ok (.string ((⟨#[101, 110, 100]⟩ : ByteArray) ++ nameOf kind)) w := fun w => run_string_add_sum w _ _ (by rcases hkk with rfl | rfl | rfl | rfl | rfl | rfl | rfl <;> decide)
 have hb : Below w.heap.size w (w.alloc (.cells #[.int .i64 kind, .int .i64 at', .string (⟨#[]⟩ : ByteArray), .int .i64 0, .int .i64 0, .int .i64 0, .string (⟨#[]⟩ : ByteArray), .slice none 0 0] 43)) := below_alloc (Below.refl _ _) _
 have hi1 : i < L.length := by
  cases k with
  | zero => cases hF
  | succ k => unfold secF at hF; split at hF; assumption; cases hF
 have hS0 := aM hS.blk
 have hIlt := aM (Kd.R_lt hI)
 have GX0 := aM hS.below.size
 have HS := aM (hS.of_below hb)
 have BX := aM (blk_new w (.cells #[.int .i64 kind, .int .i64 at', .string (⟨#[]⟩ : ByteArray), .int .i64 0, .int .i64 0, .int .i64 0, .string (⟨#[]⟩ : ByteArray), .slice none 0 0] 43))
 have HK := aM (KeepBut.of_below hb g none)
 have HI := aM hI
 have HF := aM hF
 have HE := aM hn
 clear hS hI hb hF hn
 go_enter Tryz.func57, Tryz.ntmps57
 go_upto_region 1 with (fail)
 refine norm_w (F := fun W => St w0 W g A c L i e ov iv ∧ W.heap[w.heap.size]? = some (.cells #[.int .i64 kind, .int .i64 at', .string (⟨#[]⟩ : ByteArray), .int .i64 0, .int .i64 0, .int .i64 0, .string (⟨#[]⟩ : ByteArray), .slice none 0 0] 43 (0, 0)) ∧ KeepBut w W g none) ⟨HS.out, BX.out, HK.out⟩ ?_
 clear HS BX HK
 rintro w1 ⟨hs1, bx1, hk1⟩
 have HS := aM hs1
 have BX := aM bx1
 have HK := aM hk1
 clear hs1 bx1 hk1
 go_cut [9, 10] from 15 to 21 (fun v9 v10 wx => v9 = .string (endOf kind) ∧ v10 = .func (.func 107) #[.pointer (some ⟨g, 0, none⟩)] #[] ∧ Aside0 (St w0 wx g A c L i e ov iv) ∧ Aside0 (wx.heap[w.heap.size]? = some (.cells #[.int .i64 kind, .int .i64 at', .string (⟨#[]⟩ : ByteArray), .int .i64 0, .int .i64 0, .int .i64 0, .string (⟨#[]⟩ : ByteArray), .slice none 0 0] 43 (0, 0))) ∧ Aside0 (KeepBut w wx g none))
 case first =>
  go_region_with (first | (go_at_call 25; refine (names_calls _).mono ?_; rintro x wn ⟨rfl, hbn⟩; replace HS := stQ HS hbn; replace BX := kK BX hbn; replace HK := keepQ HK hbn; clear hbn) | (go_at_call 82; refine (entry_calls _ _ hkk _).mono ?_; rintro x wn ⟨rfl, rfl⟩))
  all_goals (go_wp2_with (fail); go_meet; exact ⟨rfl, rfl, HS, BX, HK⟩)
 case rest =>
 clear HS BX HK
 obtain ⟨rfl, rfl, HS, BX, HK⟩ := hcut
 go_wp2_with (first | (go_at_call 83; refine (peek_some hC (stC HS) h0 hi1).mono ?_; rintro x wp ⟨rfl, hbp⟩; replace HS := stQ HS hbp; replace BX := kK BX hbp; replace HK := keepQ HK hbp; clear hbp))
 go_loopg [11] k (fun kq v11 w' => ∃ (jj : Int) (xs : List S50) (gt : Nat) (ev : Value), v11 = .pointer (some ⟨gt, 0, none⟩) ∧ Aside0 (secF L (endOf kind) kq jj xs = some (es, j)) ∧ Aside0 (kq ≤ k) ∧ Aside0 (0 ≤ jj) ∧ Aside0 (St w0 w' g A c L jj e ov iv) ∧ Aside0 (w'.heap[w.heap.size]? = some (.cells #[.int .i64 kind, .int .i64 at', .string (⟨#[]⟩ : ByteArray), .int .i64 0, .int .i64 0, .int .i64 0, .string (⟨#[]⟩ : ByteArray), ev] 43 (0, 0))) ∧ Aside0 (w'.heap[gt]? = some (.cells (tok4 (rd_T40 L jj)) 40 (0, 0))) ∧ Aside0 (w.heap.size < gt) ∧ Aside0 (k50.R 50 w' w0.heap.size (fun k => w.heap.size ≤ k) ev xs) ∧ Aside0 (KeepBut w w' g none))
 case atStart => exact ⟨i, [], _, .slice none 0 0, rfl, HF, ⟨Nat.le_refl _⟩, ⟨h0⟩, ⟨stC HS⟩, ⟨kQ⟩, ⟨blk_new _ _⟩, ⟨blk_lt BX.out⟩, ⟨Kd.R_nil _ _ _ _ _⟩, ⟨kpQ⟩⟩
 case round =>
  clear HF HS BX HK
  obtain ⟨jj, xs, gt, ev, rfl, HF, HQ, HJ, HS, BX, BT, HGT, HR, HK⟩ := hrel
  cases gk with
  | zero => exact absurd HF.out (by simp [secF])
  | succ k1 =>
   have hF := HF.out
   clear HF
   rw [secF] at hF
   split at hF
   rotate_left
   ·cases hF
   rename_i hj1
   obtain ⟨Ae, ce, he⟩ := Kd.R_slice HR.out
   subst he
   split at hF
   ·rename_i hend
    obtain ⟨rfl, rfl⟩ : xs = es ∧ jj = j := by injection hF with hF; injection hF with h1 h2; exact ⟨h1, h2⟩
    subst hiv
    obtain rfl := HE.out
    have hk3 : ((rd_T40 L jj).f0 != 3) = false := bne_eq_false_iff_eq.mpr hend.1
    have hs3 : ((rd_T40 L jj).f3.toList != (endOf kind).toList) = false := bne_eq_false_iff_eq.mpr hend.2
    have hs4 : ((rd_T40 L jj).f3.toList == (endOf kind).toList) = true := beq_iff_eq.mpr hend.2
    have hw : wrap64 (jj + 1) = jj + 1 := by have := HJ.out; unfold wrap64; omega
    have NG := aM (show w.heap.size ≠ g from Nat.ne_of_gt (by have := blk_lt hS0.out; exact this))
    clear hF hend
    obtain ⟨xk0, xk1, xk2, xk3, xk4, xk5, xk6, xk7, xm0, xm1, xm2, xm3, xm4, xm5, xm6, xm7⟩ := b8 BX
    obtain ⟨tk0, tk1, tk2, tk3, tm0, tm1, tm2, tm3⟩ := b4 BT
    obtain ⟨sc0, sc1, sc2, sc3, sc4, sf0, sf1, sf2, sf3, sf4⟩ := b5 HS.out.blk
    have ng1 := NG.out
    have ng2 := Ne.symm NG.out
    go_wp2_with (fail)
    have HIr := aM (R_keepT HI.out hS0.out (by decide) HK.out)
    have GE := aM HS.out.ge
    have HB := aM HS.out.below
    have BG := aM HS.out.blk
    have NG2 := aM ng1
    have NG3 := aM ng2
    have HKs := aM (KeepBut.set_ (KeepBut.refl wr g none) 1 (.int .i64 (jj + 1)))
    refine norm_w (F := fun W => St w0 W g A c L (jj + 1) e ov (.slice Ai its.length ci) ∧ W.heap[w.heap.size]? = some (.cells #[.int .i64 kind, .int .i64 at', .string (⟨#[]⟩ : ByteArray), .int .i64 0, .int .i64 0, .int .i64 0, .string (⟨#[]⟩ : ByteArray), .slice Ae xs.length ce] 43 (0, 0)) ∧ k43.R 43 W w0.heap.size (fun k => some k ≠ ov.ownBlock) (.slice Ai its.length ci) its ∧ k50.R 50 W w0.heap.size (fun k => w.heap.size ≤ k) (.slice Ae xs.length ce) xs ∧ KeepBut w W g none) ⟨⟨bQ, HS.out.ge, kQ⟩, kQ, R_keepT HIr.out HS.out.blk (by decide) HKs.out, R_keepT HR.out HS.out.blk (by decide) HKs.out, KeepBut.set_ HK.out 1 _⟩ ?_
    clear HS BX BT HIr HR HK HB BG HKs HI xk0 xk1 xk2 xk3 xk4 xk5 xk6 xk7 xm0 xm1 xm2 xm3 xm4 xm5 xm6 xm7 tk0 tk1 tk2 tk3 tm0 tm1 tm2 tm3 sc0 sc1 sc2 sc3 sc4 sf0 sf1 sf2 sf3 sf4
    rintro w4 ⟨hs4, bx4, hi4, hr4, hk4⟩
    have HS := aM hs4
    have BX := aM bx4
    have HI := aM hi4
    have HR := aM hr4
    have HK := aM hk4
    have HB := aM hs4.below
    have BG := aM hs4.blk
    have hgo := aM (Kd.R_ne hi4 hs4.blk (by decide))
    obtain ⟨sc0, sc1, sc2, sc3, sc4, sf0, sf1, sf2, sf3, sf4⟩ := b5 HS.out.blk
    obtain ⟨xk0, xk1, xk2, xk3, xk4, xk5, xk6, xk7, xm0, xm1, xm2, xm3, xm4, xm5, xm6, xm7⟩ := b8 BX
    have hfr := aM (fun (q : Nat) (hq : w.heap.size ≤ q) => (show some q ≠ ov.ownBlock from fun he => absurd (hO q he.symm) (by omega)))
    have hfi := aM (fun (q : Nat) (hq : w.heap.size ≤ q) => (show some q ≠ (Value.slice Ai its.length ci).ownBlock from fun he => absurd (hIlt.out q he.symm) (by omega)))
    clear hs4 bx4 hi4 hr4 hk4
    have ax0 := al_cell0 (.cells #[.int .i64 kind, .int .i64 at', .string (⟨#[]⟩ : ByteArray), .int .i64 0, .int .i64 0, .int .i64 0, .string (⟨#[]⟩ : ByteArray), .slice Ae xs.length ce] 43) xk0
    have ax1 := al_cell0 (.cells #[.int .i64 kind, .int .i64 at', .string (⟨#[]⟩ : ByteArray), .int .i64 0, .int .i64 0, .int .i64 0, .string (⟨#[]⟩ : ByteArray), .slice Ae xs.length ce] 43) xk1
    have ax2 := al_cell0 (.cells #[.int .i64 kind, .int .i64 at', .string (⟨#[]⟩ : ByteArray), .int .i64 0, .int .i64 0, .int .i64 0, .string (⟨#[]⟩ : ByteArray), .slice Ae xs.length ce] 43) xk2
    have ax3 := al_cell0 (.cells #[.int .i64 kind, .int .i64 at', .string (⟨#[]⟩ : ByteArray), .int .i64 0, .int .i64 0, .int .i64 0, .string (⟨#[]⟩ : ByteArray), .slice Ae xs.length ce] 43) xk3
    have ax4 := al_cell0 (.cells #[.int .i64 kind, .int .i64 at', .string (⟨#[]⟩ : ByteArray), .int .i64 0, .int .i64 0, .int .i64 0, .string (⟨#[]⟩ : ByteArray), .slice Ae xs.length ce] 43) xk4
    have ax5 := al_cell0 (.cells #[.int .i64 kind, .int .i64 at', .string (⟨#[]⟩ : ByteArray), .int .i64 0, .int .i64 0, .int .i64 0, .string (⟨#[]⟩ : ByteArray), .slice Ae xs.length ce] 43) xk5
    have ax6 := al_cell0 (.cells #[.int .i64 kind, .int .i64 at', .string (⟨#[]⟩ : ByteArray), .int .i64 0, .int .i64 0, .int .i64 0, .string (⟨#[]⟩ : ByteArray), .slice Ae xs.length ce] 43) xk6
    have ax7 := al_cell0 (.cells #[.int .i64 kind, .int .i64 at', .string (⟨#[]⟩ : ByteArray), .int .i64 0, .int .i64 0, .int .i64 0, .string (⟨#[]⟩ : ByteArray), .slice Ae xs.length ce] 43) xk7
    have as4 := al_cell0 (.cells #[.int .i64 kind, .int .i64 at', .string (⟨#[]⟩ : ByteArray), .int .i64 0, .int .i64 0, .int .i64 0, .string (⟨#[]⟩ : ByteArray), .slice Ae xs.length ce] 43) sc4
    go_region_law (refine Kd.R_append_step k43 (w0 := w0) (W := w4.drew) w0.heap.size (by rfl) (.tmp 63) (.tmp 65) 25 43 (.agg #[.int .i64 0, .int .i64 0, .string (⟨#[]⟩ : ByteArray), .int .i64 0, .int .i64 0, .int .i64 0, .string (⟨#[]⟩ : ByteArray), .slice none 0 0]) 96 rfl Tryz.underlying25 info43 rfl (by decide) (by omega) (.slice Ai its.length ci) its (⟨kind, at', (⟨#[]⟩ : ByteArray), z40, xs⟩ : S43) [.int .i64 kind, .int .i64 at', .string (⟨#[]⟩ : ByteArray), .int .i64 0, .int .i64 0, .int .i64 0, .string (⟨#[]⟩ : ByteArray), .slice Ae xs.length ce] (fun k => some k ≠ ov.ownBlock) (fun k => w.heap.size ≤ k) rfl rfl ?aP ?aK ?aF ?aO ?aB ?aS ?aL ?_; (case aP => exact k43_mkM _ _ _ _ (Kd.R_drew HR.out)); (case aK => exact (fun k hk => ⟨hfr.out k hk, hfi.out k hk⟩)); (case aF => exact (fun k hk => hfr.out k (Nat.le_trans HK.out.1 hk))); (case aO => exact Kd.R_drew HI.out); (case aB => exact below_drew1 HB.out); (case aS => exact HB.out.size); (case aL => omega); intro v6 w6 ho6 hb6 hg6 hat6; obtain ⟨A6, m6, e6⟩ := Kd.R_slice ho6; subst e6; have BG6 := aM (blk_grown (blk_drew BG.out) hg6 hgo.out); have HR6 := aM ho6; have HB6 := aM hb6; have HG6 := aM hg6; have HT6 := aM hat6; obtain ⟨yk0, yk1, yk2, yk3, yk4, ym0, ym1, ym2, ym3, ym4⟩ := b5 BG6.out; clear ho6 hb6 hg6 hat6)
    all_goals try go_wp2_with (fail)
    all_goals go_end0
    all_goals (replace HB := HB6; have GE2 := aM HS.out.ge; have HKg := aM (KeepBut.set_ (KeepBut.refl w6 g none) 4 (.slice A6 (its.length + 1) m6)))
    all_goals exact ⟨rfl, .slice A6 (its.length + 1) m6, ⟨bQ, GE2.out, kQ⟩, (by have := R_keepT HR6.out BG6.out (by decide) HKg.out; rw [List.length_append] at this; exact this), KeepBut.set_ (KeepBut.trans (KeepBut.weak HK.out _) (KeepBut.of_grown HG6.out g) (.inl rfl)) 4 _, HT6.out.imp (fun h => (by rw [List.length_append] at h; exact h)) (fun ⟨b, h1, h2⟩ => ⟨b, (by rw [List.length_append] at h1; exact h1), Nat.le_trans HK.out.1 h2⟩)⟩
   ·rename_i hend
    split at hF
    rotate_left
    ·cases hF
    rename_i hcap
    obtain ⟨x, hx, hF⟩ := Option.bind_eq_some_iff.mp hF
    have HF := aM hF
    have hj2 : jj + 2 < L.length := by
     cases k1 with
     | zero => cases hF
     | succ k2 => unfold secF at hF; split at hF; assumption; cases hF
    unfold entF at hx
    split at hx
    rotate_left
    ·cases hx
    rename_i hent
    obtain ⟨he1, he2, he3, he4, he5, he6, he7⟩ := hent
    obtain ⟨N, V, hNV⟩ : ∃ N V, valF (rd_T40 L jj).f3 = (N, V, true) := ⟨_, _, by rw [← he4]⟩
    obtain ⟨M, hM⟩ : ∃ M, M = (rd_T40 L (jj + 1)).f2 := ⟨_, rfl⟩
    rw [hNV, ← hM] at hx
    obtain rfl := Option.some.inj hx
    rw [← hM] at he6 he7
    have hk3 : ((rd_T40 L jj).f0 != 3) = true := bne_iff_ne.mpr (by omega)
    have h0j := HJ.out
    have hge := aM (Kd.R_ne HR.out BX.out (by decide))
    have NG := aM (show w.heap.size ≠ g from Nat.ne_of_gt (by have := blk_lt hS0.out; exact this))
    have NGT := aM (show gt ≠ g from fun hh => by have h1 := BT.out; rw [hh, HS.out.blk] at h1; injection h1 with h1; injection h1 with _ h2; exact absurd h2 (by decide))
    clear hF hx hend
    obtain ⟨xk0, xk1, xk2, xk3, xk4, xk5, xk6, xk7, xm0, xm1, xm2, xm3, xm4, xm5, xm6, xm7⟩ := b8 BX
    obtain ⟨tk0, tk1, tk2, tk3, tm0, tm1, tm2, tm3⟩ := b4 BT
    have HE2 := aM he2
    have HE5 := aM he5
    have HNV := aM hNV
    have HM := aM hM
    clear he2 he5 hNV hM he4
    go_upto_region 5 with (fail)
    go_region_law (first | (refine Kd.R_append_step k50 (w0 := w0) (W := w5) w0.heap.size (by rfl) (.tmp 36) (.tmp 39) 41 50 (.agg #[.int .i64 0, .int .i64 0, .int .i64 0, .int .i64 0, .int .i64 0, .slice none 0 0, .slice none 0 0]) 88 rfl Tryz.underlying41 info50 rfl (by decide) (by omega) (.slice Ae xs.length ce) xs (⟨⟨N, V⟩, ⟨N, V⟩, M, [], []⟩ : S50) [.int .i64 N, .int .i64 V, .int .i64 N, .int .i64 V, .int .i64 M, .slice none 0 0, .slice none 0 0] (fun k => w.heap.size ≤ k) (fun _ => False) rfl rfl ?aP (fun _ hk => hk.elim) ?aF ?aO ?aB ?aS ?aL ?_; (case aP => exact k50_mkM _ _ _ _ (Kd.R_nil _ _ _ _ _) (Kd.R_nil _ _ _ _ _)); (case aF => exact (fun k hk => Nat.le_trans HK5.out.1 hk)); (case aO => exact HR5.out); (case aB => exact HS5.out.below); (case aS => exact HS5.out.below.size); (case aL => omega); intro v6 w6 ho6 hb6 hg6 hat6; obtain ⟨A6, m6, e6⟩ := Kd.R_slice ho6; subst e6; have BX6 := aM (blk_grown BX5.out hg6 hge5.out); have BG6 := aM (blk_grown HS5.out.blk hg6 hgg5.out); have BT6 := aM (blk_grown BT5.out hg6 hgt5.out); have HR6 := aM ho6; have HB6 := aM hb6; have HG6 := aM hg6; obtain ⟨yk0, yk1, yk2, yk3, yk4, yk5, yk6, yk7, ym0, ym1, ym2, ym3, ym4, ym5, ym6, ym7⟩ := b8 BX6; clear ho6 hb6 hg6 hat6) | (go_simp; go_at_call 107; refine (toChar_ok hC (stC HS) h0j he1 HE2.out N V M he3 HNV.out HE5.out HM.out he6 he7).mono ?_; rintro x w5 ⟨rfl, hs5, hk5⟩; have HS5 := aM hs5; have BX5 := aM (KeepBut.blk hk5 (blk_drew BX.out) NG.out (by simp)); have BT5 := aM (KeepBut.blk hk5 (blk_drew BT.out) NGT.out (by simp)); have HR5 := aM (R_keepT (Kd.R_drew HR.out) (blk_drew HS.out.blk) (by decide) hk5); have HK5 := aM (KeepBut.trans (keep_drew HK.out) hk5 (.inl rfl)); have hge5 := aM (Kd.R_ne HR5.out BX5.out (by decide)); have hgg5 := aM (Kd.R_ne HR5.out HS5.out.blk (by decide)); have hgt5 := aM (Kd.R_ne HR5.out BT5.out (by decide)); obtain ⟨zk0, zk1, zk2, zk3, zk4, zk5, zk6, zk7, zm0, zm1, zm2, zm3, zm4, zm5, zm6, zm7⟩ := b8 BX5; have az7 := al_cell0 (.cells #[.int .i64 N, .int .i64 V, .int .i64 N, .int .i64 V, .int .i64 M, .slice none 0 0, .slice none 0 0] 50) zk7; clear hs5 hk5))
    all_goals (have HB := HB6; have NGX := aM (Ne.symm NG.out); have NTX := aM (Nat.ne_of_gt HGT.out); have HKs := aM (KeepBut.set_ (KeepBut.refl w6 w.heap.size none) 7 (.slice A6 (xs.length + 1) m6)))
    all_goals refine norm_w (F := fun wx => ∃ ev', St w0 wx g A c L (jj + 2) e ov iv ∧ wx.heap[w.heap.size]? = some (.cells #[.int .i64 kind, .int .i64 at', .string (⟨#[]⟩ : ByteArray), .int .i64 0, .int .i64 0, .int .i64 0, .string (⟨#[]⟩ : ByteArray), ev'] 43 (0, 0)) ∧ wx.heap[gt]? = some (.cells (tok4 (rd_T40 L jj)) 40 (0, 0)) ∧ k50.R 50 wx w0.heap.size (fun k => w.heap.size ≤ k) ev' (xs ++ [(⟨⟨N, V⟩, ⟨N, V⟩, M, [], []⟩ : S50)]) ∧ KeepBut w wx g none) ⟨.slice A6 (xs.length + 1) m6, ⟨bQ, HS5.out.ge, kQ⟩, kQ, kQ, (by have := R_keepT HR6.out BX6.out (by decide) HKs.out; rw [List.length_append] at this; exact this), keep_far (KeepBut.trans HK5.out (KeepBut.of_grown HG6.out g) (ownrow HR5.out (fun _ h => h))) (Nat.le_refl _) _⟩ ?_
    all_goals clear HB HB6 HG6 BX6 BG6 BT6 HR6 HKs HS5 BX5 BT5 HR5 HK5 hge5 hgg5 hgt5 zk0 zk1 zk2 zk3 zk4 zk5 zk6 zk7 zm0 zm1 zm2 zm3 zm4 zm5 zm6 zm7 yk0 yk1 yk2 yk3 yk4 yk5 yk6 yk7 ym0 ym1 ym2 ym3 ym4 ym5 ym6 ym7 xk0 xk1 xk2 xk3 xk4 xk5 xk6 xk7 xm0 xm1 xm2 xm3 xm4 xm5 xm6 xm7 tk0 tk1 tk2 tk3 tm0 tm1 tm2 tm3 az7 HS BX BT HR HK
    all_goals rintro wc ⟨ev', hsc, bxc, btc, hrc, hkc⟩
    all_goals have BN := aM (blk_new wc (.cells (tok4 (rd_T40 L jj)) 40))
    all_goals have HS := aM (hsc.alloc (.cells (tok4 (rd_T40 L jj)) 40))
    all_goals have BX := aM (blk_alloc bxc (.cells (tok4 (rd_T40 L jj)) 40))
    all_goals have HK := aM (keep_alloc hkc (.cells (tok4 (rd_T40 L jj)) 40))
    all_goals have HR := aM (Kd.R_alloc hrc (.cells (tok4 (rd_T40 L jj)) 40))
    all_goals obtain ⟨tk0, tk1, tk2, tk3, tm0, tm1, tm2, tm3⟩ := b4 (aM btc)
    all_goals have HGN := aM (blk_lt bxc)
    all_goals have NGN := aM (Nat.ne_of_lt (blk_lt hsc.blk))
    all_goals have GN0 := aM hsc.below.size
    all_goals have GNw := aM hkc.1
    all_goals clear hsc bxc btc hkc hrc
    all_goals go_wp2_with (first | (go_at_call 83; refine (peek_some hC (stC HS) (by omega) hj2).mono ?_; rintro x wp ⟨rfl, hbp⟩; replace HS := stQ HS hbp; replace BX := kK2 BX hbp; replace BN := kK2 BN hbp; replace HK := keepQ HK hbp; replace HR := aM (Kd.R_below HR.out hbp); obtain ⟨nk0, nk1, nk2, nk3, nm0, nm1, nm2, nm3⟩ := b4 BN; clear hbp))
    all_goals go_roundg k1
    all_goals first | (case measure => have := HQ.out; omega) | skip
    all_goals have NXN := aM (Nat.ne_of_lt HGN.out)
    all_goals have HB := aM HS.out.below
    all_goals have BG := aM HS.out.blk
    all_goals (case rel => exact ⟨jj + 2, _, wc.heap.size, ev', rfl, HF, ⟨by have := HQ.out; omega⟩, ⟨by omega⟩, ⟨⟨bQ, HS.out.ge, kQ⟩⟩, ⟨kQ⟩, ⟨kQ⟩, HGN, ⟨R_keepT HR.out BN.out (by decide) (KeepBut.set_ (KeepBut.set_ (KeepBut.set_ (KeepBut.set_ (KeepBut.refl _ _ _) 0 _) 1 _) 2 _) 3 _)⟩, ⟨kpQ⟩⟩)
end
end Go.Proofs.YtjplnhdplpiogaaGreatDoor.M
end
section
namespace Go.Proofs.YtjplnhdplpiogaaGreatDoor.M
open Go.RowKit Go.Proofs.YtjplnhdplpiogaaGreatDoorW.PrintWords Go.Proofs.YtjplnhdplpiogaaGreatDoorW.PrintLast Go.Proofs.YtjplnhdplpiogaaGreatDoorW.PrintMore
set_option linter.unusedVariables false
set_option linter.unusedSimpArgs false
set_option maxRecDepth 100000
set_option maxHeartbeats 8000000
theorem norm_c {P : Program} {f : FuncId} {args : Array Value} {R : Ending → World → Prop} {W : World} (F : World → Prop) (hF : F W) (h : ∀ W', F W' → Calls P f args W' R) : Calls P f args W R := h W hF
theorem stB {w W : World} {g : Nat} {o : Obj} (h : Aside0 (w.heap[g]? = some o)) (c' : w.heap[g]? = some o → W.heap[g]? = some o := by intro h; (with_reducible repeat first | exact h | apply blk_drewN | apply blk_drew | apply blk_alloc)) : W.heap[g]? = some o := c' h.out
def aheadF (L : List S40) (i n : Int) : S40 := if i < n then ⟨0, 0, 0, ⟨#[]⟩⟩ else rd_T40 L (i - n)
section
variable {w0 w : World} {g : Nat} {A : Option Addr} {c : Nat} {L : List S40} {i e : Int} {ov iv : Value}
theorem ahead_calls (hC : Kd.C k40 w0 A L.length L) (hS : St w0 w g A c L i e ov iv) (n : Int) (hn : 0 ≤ n ∧ n ≤ 2) (h0 : 0 ≤ i) (hi1 : i < L.length) :
  Calls Tryz.prog 54 #[.pointer (some ⟨g, 0, none⟩), .int .i64 n] w fun x w' => x = .returned (.agg (tok4 (aheadF L i n))) ∧ Below w.heap.size w w' := by
 unfold aheadF
 have hL : (L.length : Int) ≤ 9223372036854775807 := by have := Kd.C_max hC; omega
 by_cases h : i < n
 ·rw [if_pos h]
  exact ahead_none hS n h
 ·rw [if_neg h]
  exact ahead_some hC hS n _ rfl h (by omega) (by omega) (by omega)
theorem word_def (hC : Kd.C k40 w0 A L.length L) (hS : St w0 w g A c L i e ov iv) (h0 : 0 ≤ i) (hi1 : i < L.length) (t : S40) (hd : t.f3.toList = [100, 101, 102]) (hb2 : (aheadF L i 2).f0 = 2) (ha1 : (aheadF L i 1).f0 = 1 ∨ (aheadF L i 1).f0 = 2 ∨ (aheadF L i 1).f0 = 5) (its : List S43) (hI : k43.R 43 w w0.heap.size (fun k => some k ≠ ov.ownBlock) iv its) (hlen : its.length < 1000000) (hO : ∀ b, ov.ownBlock = some b → b < w.heap.size) :
  Calls Tryz.prog 31 #[.pointer (some ⟨g, 0, none⟩), .agg (tok4 t)] w fun x w' => x = .returned (.tuple #[]) ∧ ∃ iv', St w0 w' g A c L (i + 1) e ov iv' ∧ k43.R 43 w' w0.heap.size (fun k => some k ≠ ov.ownBlock) iv' (its ++ [⟨0, t.f1, (aheadF L i 2).f3, aheadF L i 1, []⟩]) ∧ KeepBut w w' g iv.ownBlock ∧ (iv'.ownBlock = iv.ownBlock ∨ ∃ b, iv'.ownBlock = some b ∧ w.heap.size ≤ b) := by
 have hu40 := Tryz.underlying40
 have hu43 := Tryz.underlying43
 have hu58 := Tryz.underlying58
 have hL : (L.length : Int) ≤ 9223372036854775807 := by have := Kd.C_max hC; omega
 have hw : wrap64 (i + 1) = i + 1 := by unfold wrap64; omega
 have hS0 := aM hS.blk
 have hS0' := aM hS.below.size
 have hIlt := aM (Kd.R_lt hI)
 obtain ⟨Ai, ci, hiv⟩ := Kd.R_slice hI
 subst hiv
 obtain ⟨a, hA⟩ : ∃ a, a = aheadF L i 1 := ⟨_, rfl⟩
 obtain ⟨b, hB⟩ : ∃ b, b = aheadF L i 2 := ⟨_, rfl⟩
 have hdd : (t.f3.toList == [100, 101, 102]) = true := beq_iff_eq.mpr hd
 have hbb : ((aheadF L i 2).f0 == 2) = true := beq_iff_eq.mpr hb2
 have hval := aM (show syn_value.f (aheadF L i 1).f0 (aheadF L i 1).f1 (aheadF L i 1).f2 (aheadF L i 1).f3 = some true by
  unfold syn_value.f
  rcases ha1 with h | h | h <;> rw [h] <;> rfl)
 have hb : Below w.heap.size w (w.alloc (.cells #[.int .i64 t.f0, .int .i64 t.f1, .int .i64 t.f2, .string t.f3] 40)) := below_alloc (Below.refl _ _) _
 have HS := aM (hS.of_below hb)
 have BT := aM (blk_new w (.cells #[.int .i64 t.f0, .int .i64 t.f1, .int .i64 t.f2, .string t.f3] 40))
 have HK := aM (KeepBut.of_below hb g none)
 have HI := aM hI
 clear hS hI hb hd hb2 ha1
 go_enter Tryz.func31, Tryz.ntmps31
 go_wp2_with (first | (go_at_call 54; (with_reducible refine (ahead_calls hC (stC HS) 1 (by decide) h0 hi1).mono ?_); rintro x wp1 ⟨rfl, hbp⟩; replace HS := stQ HS hbp; replace BT := kK2 BT hbp; replace HK := keepQ HK hbp; clear hbp) | (go_at_call 54; (with_reducible refine (ahead_calls hC (stC HS) 2 (by decide) h0 hi1).mono ?_); rintro x wp2 ⟨rfl, hbp⟩; replace HS := stQ HS hbp; replace BT := kK2 BT hbp; replace HK := keepQ HK hbp; clear hbp) | ((with_reducible refine gD 4 ?_); refine bE 4 (cs := #[.int .i64 0, .int .i64 0, .int .i64 0, .string (⟨#[]⟩ : ByteArray)]) (t := 40) ?_; intro ga hg wga hbox hb; have Nga := aM (show g ≠ ga by rw [hg]; exact Nat.ne_of_lt (blk_lt (stC HS).blk)); have Tga := aM (show w.heap.size < ga by rw [hg]; exact blk_lt (stB BT)); replace BT := kK2 BT hb; have BA := aM hbox; replace HS := stQ HS hb; replace HK := keepQ HK hb; clear hb hbox hg) | ((with_reducible refine gD 5 ?_); refine bE 5 (cs := #[.int .i64 0, .int .i64 0, .int .i64 0, .string (⟨#[]⟩ : ByteArray)]) (t := 40) ?_; intro gb hg wgb hbox hb; have Ngb := aM (show g ≠ gb by rw [hg]; exact Nat.ne_of_lt (blk_lt (stC HS).blk)); have Tgb := aM (show w.heap.size < gb by rw [hg]; exact blk_lt (stB BT)); have NAB := aM (show ga ≠ gb by rw [hg]; exact Nat.ne_of_lt (blk_lt (stB BA))); replace BA := kK2 BA hb; replace BT := kK2 BT hb; have BB := aM hbox; replace HS := stQ HS hb; replace HK := keepQ HK hb; clear hb hbox hg; obtain ⟨ak0, ak1, ak2, ak3, am0, am1, am2, am3⟩ := b4 BA; obtain ⟨bk0, bk1, bk2, bk3, bm0, bm1, bm2, bm3⟩ := b4 BB; obtain ⟨tk0, tk1, tk2, tk3, tm0, tm1, tm2, tm3⟩ := b4 BT; have q1 := NAB.out; have q2 := Ne.symm NAB.out; have q3 := Nat.ne_of_lt Tga.out; have q4 := Ne.symm q3; have q5 := Nat.ne_of_lt Tgb.out; have q6 := Ne.symm q5))
 have NA := aM (Ne.symm Nga.out)
 have NB2 := aM (Ne.symm Ngb.out)
 have NAB2 := aM q2
 have NTA := aM q3
 have NTB := aM q5
 have NTA2 := aM q4
 have NTB2 := aM q6
 have GA := aM (Nat.le_trans HS.out.below.size (Nat.le_refl _))
 have Ga := aM (show w0.heap.size ≤ ga from Nat.le_trans hS0'.out (Nat.le_of_lt Tga.out))
 have Gb := aM (show w0.heap.size ≤ gb from Nat.le_trans hS0'.out (Nat.le_of_lt Tgb.out))
 have Gwa := aM (Nat.le_of_lt Tga.out)
 have Gwb := aM (Nat.le_of_lt Tgb.out)
 have HB := aM HS.out.below
 have BG := aM HS.out.blk
 refine norm_c (F := fun W => St w0 W g A c L i e ov (.slice Ai its.length ci) ∧ W.heap[w.heap.size]? = some (.cells #[.int .i64 t.f0, .int .i64 t.f1, .int .i64 t.f2, .string t.f3] 40 (0, 0)) ∧ W.heap[ga]? = some (.cells #[.int .i64 (aheadF L i 1).f0, .int .i64 (aheadF L i 1).f1, .int .i64 (aheadF L i 1).f2, .string (aheadF L i 1).f3] 40 (0, 0)) ∧ W.heap[gb]? = some (.cells #[.int .i64 (aheadF L i 2).f0, .int .i64 (aheadF L i 2).f1, .int .i64 (aheadF L i 2).f2, .string (aheadF L i 2).f3] 40 (0, 0)) ∧ KeepBut w W g none) ⟨⟨bQ, HS.out.ge, kQ⟩, kQ, kQ, kQ, kpQ⟩ ?_
 clear HS BT BA BB HK HB BG ak0 ak1 ak2 ak3 am0 am1 am2 am3 bk0 bk1 bk2 bk3 bm0 bm1 bm2 bm3 tk0 tk1 tk2 tk3 tm0 tm1 tm2 tm3
 rintro w3 ⟨hs3, bt3, ba3, bb3, hk3⟩
 have HS := aM hs3
 have BT := aM bt3
 have BA := aM ba3
 have BB := aM bb3
 have HK := aM hk3
 clear hs3 bt3 ba3 bb3 hk3
 (with_reducible refine (begun_calls _ _).mono ?_)
 rintro x w5 ⟨rfl, hbp⟩
 replace HS := stQ HS hbp
 replace BT := kK2 BT hbp
 replace BA := kK2 BA hbp
 replace BB := kK2 BB hbp
 replace HK := keepQ HK hbp
 clear hbp
 obtain ⟨kd, kbg⟩ : ∃ k b, begunF t.f3 = (k, b) := ⟨_, _, rfl⟩
 obtain ⟨bg, hbg⟩ := kbg
 rw [hbg]
 obtain ⟨sc0, sc1, sc2, sc3, sc4, sf0, sf1, sf2, sf3, sf4⟩ := b5 HS.out.blk
 obtain ⟨ak0, ak1, ak2, ak3, am0, am1, am2, am3⟩ := b4 BA
 obtain ⟨bk0, bk1, bk2, bk3, bm0, bm1, bm2, bm3⟩ := b4 BB
 obtain ⟨tk0, tk1, tk2, tk3, tm0, tm1, tm2, tm3⟩ := b4 BT
 have q7 := Nga.out
 have q8 := Ngb.out
 have q9 := NA.out
 have q10 := NB2.out
 have NTG := aM (show w.heap.size ≠ g from Nat.ne_of_gt (by have := blk_lt hS0.out; exact this))
 have q11 := NTG.out
 have q12 := Ne.symm NTG.out
 go_wp2_with (first | (go_at_call 56; (with_reducible refine (syn_value.calls _ _ _ _ _ _ hval.out).mono ?_); rintro x wv ⟨rfl, hdv⟩))
 have HIr := aM (R_keepT HI.out hS0.out (by decide) HK.out)
 have GE := aM HS.out.ge
 have HB := aM HS.out.below
 have BG := aM HS.out.blk
 have NG3 := aM q12
 have HKs := aM (KeepBut.set_ (KeepBut.refl w5 g none) 1 (.int .i64 (i + 1)))
 refine norm_w (F := fun W => St w0 W g A c L (i + 1) e ov (.slice Ai its.length ci) ∧ W.heap[w.heap.size]? = some (.cells #[.int .i64 t.f0, .int .i64 t.f1, .int .i64 t.f2, .string t.f3] 40 (0, 0)) ∧ W.heap[ga]? = some (.cells #[.int .i64 (aheadF L i 1).f0, .int .i64 (aheadF L i 1).f1, .int .i64 (aheadF L i 1).f2, .string (aheadF L i 1).f3] 40 (0, 0)) ∧ W.heap[gb]? = some (.cells #[.int .i64 (aheadF L i 2).f0, .int .i64 (aheadF L i 2).f1, .int .i64 (aheadF L i 2).f2, .string (aheadF L i 2).f3] 40 (0, 0)) ∧ k43.R 43 W w0.heap.size (fun k => some k ≠ ov.ownBlock) (.slice Ai its.length ci) its ∧ KeepBut w W g none) ⟨(⟨bQ, HS.out.ge, kQ⟩ : St w0 (w5.setCell ⟨g, 1, none⟩ (.int .i64 (i + 1))) g A c L (i + 1) e ov (.slice Ai its.length ci)).of_below hdv, blk_below kQ hdv, blk_below kQ hdv, blk_below kQ hdv, Kd.R_below (R_keepT HIr.out HS.out.blk (by decide) HKs.out) hdv, KeepBut.trans (KeepBut.set_ HK.out 1 _) (KeepBut.of_below hdv g none) (.inl rfl)⟩ ?_
 clear hdv HS BT BA BB HK HB BG HIr HKs HI ak0 ak1 ak2 ak3 am0 am1 am2 am3 bk0 bk1 bk2 bk3 bm0 bm1 bm2 bm3 tk0 tk1 tk2 tk3 tm0 tm1 tm2 tm3 sc0 sc1 sc2 sc3 sc4 sf0 sf1 sf2 sf3 sf4
 rintro w4 ⟨hs4, bt4, ba4, bb4, hi4, hk4⟩
 have HS := aM hs4
 have HI := aM hi4
 have HK := aM hk4
 have HB := aM hs4.below
 have BG := aM hs4.blk
 have hgo := aM (Kd.R_ne hi4 hs4.blk (by decide))
 obtain ⟨sc0, sc1, sc2, sc3, sc4, sf0, sf1, sf2, sf3, sf4⟩ := b5 HS.out.blk
 obtain ⟨ak0, ak1, ak2, ak3, am0, am1, am2, am3⟩ := b4 (aM ba4)
 obtain ⟨bk0, bk1, bk2, bk3, bm0, bm1, bm2, bm3⟩ := b4 (aM bb4)
 obtain ⟨tk0, tk1, tk2, tk3, tm0, tm1, tm2, tm3⟩ := b4 (aM bt4)
 have BT4 := aM bt4
 have BA4 := aM ba4
 have BB4 := aM bb4
 have hgt := aM (Kd.R_ne hi4 bt4 (by decide))
 have hga := aM (Kd.R_ne hi4 ba4 (by decide))
 have hgb := aM (Kd.R_ne hi4 bb4 (by decide))
 clear hs4 bt4 ba4 bb4 hi4 hk4
 have hfr := aM (fun (q : Nat) (hq : w.heap.size ≤ q) => (show some q ≠ ov.ownBlock from fun he => absurd (hO q he.symm) (by omega)))
 have l0 := al_cell0 (.cells #[.int .i64 0, .int .i64 t.f1, .string (aheadF L i 2).f3, .int .i64 (aheadF L i 1).f0, .int .i64 (aheadF L i 1).f1, .int .i64 (aheadF L i 1).f2, .string (aheadF L i 1).f3, .slice none 0 0] 43) sc4
 have l1 := al_cell0 (.cells #[.int .i64 0, .int .i64 t.f1, .string (aheadF L i 2).f3, .int .i64 (aheadF L i 1).f0, .int .i64 (aheadF L i 1).f1, .int .i64 (aheadF L i 1).f2, .string (aheadF L i 1).f3, .slice none 0 0] 43) tk1
 have l2 := al_cell0 (.cells #[.int .i64 0, .int .i64 t.f1, .string (aheadF L i 2).f3, .int .i64 (aheadF L i 1).f0, .int .i64 (aheadF L i 1).f1, .int .i64 (aheadF L i 1).f2, .string (aheadF L i 1).f3, .slice none 0 0] 43) bk3
 have l3 := al_cell0 (.cells #[.int .i64 0, .int .i64 t.f1, .string (aheadF L i 2).f3, .int .i64 (aheadF L i 1).f0, .int .i64 (aheadF L i 1).f1, .int .i64 (aheadF L i 1).f2, .string (aheadF L i 1).f3, .slice none 0 0] 43) ak0
 have l4 := al_cell0 (.cells #[.int .i64 0, .int .i64 t.f1, .string (aheadF L i 2).f3, .int .i64 (aheadF L i 1).f0, .int .i64 (aheadF L i 1).f1, .int .i64 (aheadF L i 1).f2, .string (aheadF L i 1).f3, .slice none 0 0] 43) ak1
 have l5 := al_cell0 (.cells #[.int .i64 0, .int .i64 t.f1, .string (aheadF L i 2).f3, .int .i64 (aheadF L i 1).f0, .int .i64 (aheadF L i 1).f1, .int .i64 (aheadF L i 1).f2, .string (aheadF L i 1).f3, .slice none 0 0] 43) ak2
 have l6 := al_cell0 (.cells #[.int .i64 0, .int .i64 t.f1, .string (aheadF L i 2).f3, .int .i64 (aheadF L i 1).f0, .int .i64 (aheadF L i 1).f1, .int .i64 (aheadF L i 1).f2, .string (aheadF L i 1).f3, .slice none 0 0] 43) ak3
 refine wp_region_noPanic ?_
 refine wp_region_held_drew (S := (fun W : World => W.cell? ⟨w.heap.size, 1, none⟩ = some (.int .i64 t.f1) ∧ W.cell? ⟨gb, 3, none⟩ = some (.string (aheadF L i 2).f3) ∧ W.cell? ⟨ga, 0, none⟩ = some (.int .i64 (aheadF L i 1).f0) ∧ W.cell? ⟨ga, 1, none⟩ = some (.int .i64 (aheadF L i 1).f1) ∧ W.cell? ⟨ga, 2, none⟩ = some (.int .i64 (aheadF L i 1).f2) ∧ W.cell? ⟨ga, 3, none⟩ = some (.string (aheadF L i 1).f3))) (by kernel_rfl) ?_ (fun hHeld => ?_)
 ·(first | exact ⟨tk1, bk3, ak0, ak1, ak2, ak3⟩ | exact ⟨l1, l2, l3, l4, l5, l6⟩ | exact ⟨ty1, by3, ay0, ay1, ay2, ay3⟩ | (simp [go_sem, *]; done))
 refine wpAnyH_take (i := 0) (oi := _) (v := ?v0_1) rfl (by kernel_rfl) (by kernel_rfl) (by kernel_rfl) (fun _ _ _ h => h) (Or.inl ⟨by rfl, ?y0_1⟩) (by assumption) ?r0_1
 case y0_1 => (intro w hSw; (try dsimp only at hSw); go_simp; (try with_reducible rfl))
 try simp only [Act.put, List.setIfInBounds_toArray, List.set_cons_zero, List.set_cons_succ]
 refine wpAnyH_take (i := 1) (oi := _) (v := ?v1_2) rfl (by kernel_rfl) (by kernel_rfl) (by kernel_rfl) (fun _ _ _ h => h) (Or.inl ⟨by rfl, ?y1_2⟩) (by assumption) ?r1_2
 case y1_2 => (intro w hSw; (try dsimp only at hSw); go_simp; (try with_reducible rfl))
 try simp only [Act.put, List.setIfInBounds_toArray, List.set_cons_zero, List.set_cons_succ]
 refine wpAnyH_take (i := 2) (oi := _) (v := ?v2_3) rfl (by kernel_rfl) (by kernel_rfl) (by kernel_rfl) (fun _ _ _ h => h) (Or.inl ⟨by rfl, ?y2_3⟩) (by assumption) ?r2_3
 case y2_3 => (intro w hSw; (try dsimp only at hSw); go_simp; (try with_reducible rfl))
 try simp only [Act.put, List.setIfInBounds_toArray, List.set_cons_zero, List.set_cons_succ]
 refine wpAnyH_take (i := 3) (oi := _) (v := ?v3_4) rfl (by kernel_rfl) (by kernel_rfl) (by kernel_rfl) (fun _ _ _ h => h) (Or.inl ⟨by rfl, ?y3_4⟩) (by assumption) ?r3_4
 case y3_4 => (intro w hSw; (try dsimp only at hSw); go_simp; (try with_reducible rfl))
 try simp only [Act.put, List.setIfInBounds_toArray, List.set_cons_zero, List.set_cons_succ]
 refine wpAnyH_take (i := 5) (oi := _) (v := ?v5_5) rfl (by kernel_rfl) (by kernel_rfl) (by kernel_rfl) (fun _ _ _ h => h) (Or.inl ⟨by rfl, ?y5_5⟩) (by assumption) ?r5_5
 case y5_5 => (intro w hSw; (try dsimp only at hSw); go_simp; (try with_reducible rfl))
 try simp only [Act.put, List.setIfInBounds_toArray, List.set_cons_zero, List.set_cons_succ]
 refine wpAnyH_take (i := 6) (oi := _) (v := ?v6_6) rfl (by kernel_rfl) (by kernel_rfl) (by kernel_rfl) (fun _ _ _ h => h) (Or.inl ⟨by rfl, ?y6_6⟩) (by assumption) ?r6_6
 case y6_6 => (intro w hSw; (try dsimp only at hSw); go_simp; (try with_reducible rfl))
 try simp only [Act.put, List.setIfInBounds_toArray, List.set_cons_zero, List.set_cons_succ]
 refine wpAnyH_take (i := 7) (oi := _) (v := ?v7_7) rfl (by kernel_rfl) (by kernel_rfl) (by kernel_rfl) (fun _ _ _ h => h) (Or.inl ⟨by rfl, ?y7_7⟩) (by assumption) ?r7_7
 case y7_7 => (intro w hSw; (try dsimp only at hSw); go_simp; (try with_reducible rfl))
 try simp only [Act.put, List.setIfInBounds_toArray, List.set_cons_zero, List.set_cons_succ]
 refine wpAnyH_take (i := 8) (oi := _) (v := ?v8_8) rfl (by kernel_rfl) (by kernel_rfl) (by kernel_rfl) (fun _ _ _ h => h) (Or.inl ⟨by rfl, ?y8_8⟩) (by assumption) ?r8_8
 case y8_8 => (intro w hSw; (try dsimp only at hSw); go_simp; (try with_reducible rfl))
 try simp only [Act.put, List.setIfInBounds_toArray, List.set_cons_zero, List.set_cons_succ]
 refine wpAnyH_take (i := 9) (oi := _) (v := ?v9_9) rfl (by kernel_rfl) (by kernel_rfl) (by kernel_rfl) (fun _ _ _ h => h) (Or.inl ⟨by rfl, ?y9_9⟩) (by assumption) ?r9_9
 case y9_9 => (intro w hSw; (try dsimp only at hSw); go_simp; (try with_reducible rfl))
 try simp only [Act.put, List.setIfInBounds_toArray, List.set_cons_zero, List.set_cons_succ]
 refine wpAnyH_take (i := 10) (oi := _) (v := ?v10_10) rfl (by kernel_rfl) (by kernel_rfl) (by kernel_rfl) (fun _ _ _ h => h) (Or.inl ⟨by rfl, ?y10_10⟩) (by assumption) ?r10_10
 case y10_10 => (intro w hSw; (try dsimp only at hSw); go_simp; (try with_reducible rfl))
 try simp only [Act.put, List.setIfInBounds_toArray, List.set_cons_zero, List.set_cons_succ]
 refine wpAnyH_ready (rs := [4, 11]) (by kernel_rfl) (by simp) ?_
 refine AllReadyH.cons (o := _) rfl (fun K hK => ?_) ?_
 ·go_simp
  refine hK.out _ _ ?_ (fun hHeld2 => ?_)
  ·(first | exact ⟨tk1, bk3, ak0, ak1, ak2, ak3⟩ | exact ⟨l1, l2, l3, l4, l5, l6⟩ | exact ⟨ty1, by3, ay0, ay1, ay2, ay3⟩ | (simp [go_sem, *]; done))
  clear hK K
  try simp only [Act.put, List.setIfInBounds_toArray, List.set_cons_zero, List.set_cons_succ]
  refine wpAnyH_ready (rs := [11]) (by kernel_rfl) (by simp) ?_
  refine AllReadyH.cons (o := _) rfl (fun K hK => ?_) ?_
  ·go_simp
   refine hK.out _ _ ?_ (fun hHeld2 => ?_)
   ·(first | exact ⟨tk1, bk3, ak0, ak1, ak2, ak3⟩ | exact ⟨l1, l2, l3, l4, l5, l6⟩ | exact ⟨ty1, by3, ay0, ay1, ay2, ay3⟩ | (simp [go_sem, *]; done))
   clear hK K
   try simp only [Act.put, List.setIfInBounds_toArray, List.set_cons_zero, List.set_cons_succ]
   refine wpAnyH_ready (rs := [12]) (by kernel_rfl) (by simp) ?_
   refine AllReadyH.cons (o := _) rfl (fun K hK => ?_) ?_
   ·(first | (refine Kd.R_append_step k43 (w0 := w0) (W := w4.drew) w0.heap.size (by rfl) (.tmp 42) (.tmp 49) 25 43 (.agg #[.int .i64 0, .int .i64 0, .string (⟨#[]⟩ : ByteArray), .int .i64 0, .int .i64 0, .int .i64 0, .string (⟨#[]⟩ : ByteArray), .slice none 0 0]) 96 rfl Tryz.underlying25 info43 rfl (by decide) (by omega) (.slice Ai its.length ci) its (⟨0, t.f1, (aheadF L i 2).f3, aheadF L i 1, []⟩ : S43) [.int .i64 0, .int .i64 t.f1, .string (aheadF L i 2).f3, .int .i64 (aheadF L i 1).f0, .int .i64 (aheadF L i 1).f1, .int .i64 (aheadF L i 1).f2, .string (aheadF L i 1).f3, .slice none 0 0] (fun k => some k ≠ ov.ownBlock) (fun _ => False) rfl rfl ?aP (fun _ hk => hk.elim) ?aF ?aO ?aB ?aS ?aL ?_; (case aP => exact k43_mkM _ _ _ _ (Kd.R_nil _ _ _ _ _)); (case aF => exact (fun k hk => hfr.out k (Nat.le_trans HK.out.1 hk))); (case aO => exact Kd.R_drew HI.out); (case aB => exact below_drew1 HB.out); (case aS => exact HB.out.size); (case aL => omega); intro v6 w6 ho6 hb6 hg6 hat6; obtain ⟨A6, m6, e6⟩ := Kd.R_slice ho6; subst e6; have BG6 := aM (blk_grown (blk_drew BG.out) hg6 hgo.out); have HR6 := aM ho6; have HB6 := aM hb6; have HG6 := aM hg6; have HT6 := aM hat6; obtain ⟨yk0, yk1, yk2, yk3, yk4, ym0, ym1, ym2, ym3, ym4⟩ := b5 BG6.out; obtain ⟨ty0, ty1, ty2, ty3, -, -, -, -⟩ := b4 (aM (blk_grown (blk_drew BT4.out) hg6 hgt.out)); obtain ⟨ay0, ay1, ay2, ay3, -, -, -, -⟩ := b4 (aM (blk_grown (blk_drew BA4.out) hg6 hga.out)); obtain ⟨by0, by1, by2, by3, -, -, -, -⟩ := b4 (aM (blk_grown (blk_drew BB4.out) hg6 hgb.out)); clear ho6 hb6 hg6 hat6))
    refine hK.out _ _ ?_ (fun hHeld2 => ?_)
    ·(first | exact ⟨tk1, bk3, ak0, ak1, ak2, ak3⟩ | exact ⟨l1, l2, l3, l4, l5, l6⟩ | exact ⟨ty1, by3, ay0, ay1, ay2, ay3⟩ | (simp [go_sem, *]; done))
    clear hK K
    try simp only [Act.put, List.setIfInBounds_toArray, List.set_cons_zero, List.set_cons_succ]
    refine wpAnyH_take (i := 13) (oi := _) (v := ?v13_11) rfl (by kernel_rfl) (by kernel_rfl) (by kernel_rfl) (fun _ _ _ h => h) (Or.inl ⟨by rfl, ?y13_11⟩) (by assumption) ?r13_11
    case y13_11 => (intro w hSw; (try dsimp only at hSw); go_simp; (try with_reducible rfl))
    try simp only [Act.put, List.setIfInBounds_toArray, List.set_cons_zero, List.set_cons_succ]
    refine wpAnyH_take (i := 14) (oi := _) (v := ?v14_12) rfl (by kernel_rfl) (by kernel_rfl) (by kernel_rfl) (fun _ _ _ h => h) (Or.inl ⟨by rfl, ?y14_12⟩) (by assumption) ?r14_12
    case y14_12 => (intro w hSw; (try dsimp only at hSw); go_simp; (try with_reducible rfl))
    try simp only [Act.put, List.setIfInBounds_toArray, List.set_cons_zero, List.set_cons_succ]
    refine wpAnyH_ready (rs := [15]) (by kernel_rfl) (by simp) ?_
    refine AllReadyH.cons (o := _) rfl (fun K hK => ?_) ?_
    ·go_simp
     refine hK.out _ _ ?_ (fun hHeld2 => ?_)
     ·(first | exact ⟨tk1, bk3, ak0, ak1, ak2, ak3⟩ | exact ⟨l1, l2, l3, l4, l5, l6⟩ | exact ⟨ty1, by3, ay0, ay1, ay2, ay3⟩ | (simp [go_sem, *]; done))
     clear hK K
     try simp only [Act.put, List.setIfInBounds_toArray, List.set_cons_zero, List.set_cons_succ]
     refine wpAnyH_done (by kernel_rfl) ?_ _
     refine NoPanic.normal ?_
     try go_wp2_with (fail)
     go_end0
     (replace HB := HB6; have GE2 := aM HS.out.ge; have HKg := aM (KeepBut.set_ (KeepBut.refl w6 g none) 4 (.slice A6 (its.length + 1) m6)))
     exact ⟨rfl, .slice A6 (its.length + 1) m6, ⟨bQ, GE2.out, kQ⟩, (by have := R_keepT HR6.out BG6.out (by decide) HKg.out; rw [List.length_append] at this; exact this), KeepBut.set_ (KeepBut.trans (KeepBut.weak HK.out _) (KeepBut.of_grown HG6.out g) (.inl rfl)) 4 _, HT6.out.imp (fun h => (by rw [List.length_append] at h; exact h)) (fun ⟨b, h1, h2⟩ => ⟨b, (by rw [List.length_append] at h1; exact h1), Nat.le_trans HK.out.1 h2⟩)⟩
    exact AllReadyH.nil
   exact AllReadyH.nil
  exact AllReadyH.nil
 refine AllReadyH.cons (o := _) rfl (fun K hK => ?_) ?_
 ·go_simp
  refine hK.out _ _ ?_ (fun hHeld2 => ?_)
  ·(first | exact ⟨tk1, bk3, ak0, ak1, ak2, ak3⟩ | exact ⟨l1, l2, l3, l4, l5, l6⟩ | exact ⟨ty1, by3, ay0, ay1, ay2, ay3⟩ | (simp [go_sem, *]; done))
  clear hK K
  try simp only [Act.put, List.setIfInBounds_toArray, List.set_cons_zero, List.set_cons_succ]
  refine wpAnyH_ready (rs := [4]) (by kernel_rfl) (by simp) ?_
  refine AllReadyH.cons (o := _) rfl (fun K hK => ?_) ?_
  ·go_simp
   refine hK.out _ _ ?_ (fun hHeld2 => ?_)
   ·(first | exact ⟨tk1, bk3, ak0, ak1, ak2, ak3⟩ | exact ⟨l1, l2, l3, l4, l5, l6⟩ | exact ⟨ty1, by3, ay0, ay1, ay2, ay3⟩ | (simp [go_sem, *]; done))
   clear hK K
   try simp only [Act.put, List.setIfInBounds_toArray, List.set_cons_zero, List.set_cons_succ]
   refine wpAnyH_ready (rs := [12]) (by kernel_rfl) (by simp) ?_
   refine AllReadyH.cons (o := _) rfl (fun K hK => ?_) ?_
   ·(first | (refine Kd.R_append_step k43 (w0 := w0) (W := w4.drew) w0.heap.size (by rfl) (.tmp 42) (.tmp 49) 25 43 (.agg #[.int .i64 0, .int .i64 0, .string (⟨#[]⟩ : ByteArray), .int .i64 0, .int .i64 0, .int .i64 0, .string (⟨#[]⟩ : ByteArray), .slice none 0 0]) 96 rfl Tryz.underlying25 info43 rfl (by decide) (by omega) (.slice Ai its.length ci) its (⟨0, t.f1, (aheadF L i 2).f3, aheadF L i 1, []⟩ : S43) [.int .i64 0, .int .i64 t.f1, .string (aheadF L i 2).f3, .int .i64 (aheadF L i 1).f0, .int .i64 (aheadF L i 1).f1, .int .i64 (aheadF L i 1).f2, .string (aheadF L i 1).f3, .slice none 0 0] (fun k => some k ≠ ov.ownBlock) (fun _ => False) rfl rfl ?aP (fun _ hk => hk.elim) ?aF ?aO ?aB ?aS ?aL ?_; (case aP => exact k43_mkM _ _ _ _ (Kd.R_nil _ _ _ _ _)); (case aF => exact (fun k hk => hfr.out k (Nat.le_trans HK.out.1 hk))); (case aO => exact Kd.R_drew HI.out); (case aB => exact below_drew1 HB.out); (case aS => exact HB.out.size); (case aL => omega); intro v6 w6 ho6 hb6 hg6 hat6; obtain ⟨A6, m6, e6⟩ := Kd.R_slice ho6; subst e6; have BG6 := aM (blk_grown (blk_drew BG.out) hg6 hgo.out); have HR6 := aM ho6; have HB6 := aM hb6; have HG6 := aM hg6; have HT6 := aM hat6; obtain ⟨yk0, yk1, yk2, yk3, yk4, ym0, ym1, ym2, ym3, ym4⟩ := b5 BG6.out; obtain ⟨ty0, ty1, ty2, ty3, -, -, -, -⟩ := b4 (aM (blk_grown (blk_drew BT4.out) hg6 hgt.out)); obtain ⟨ay0, ay1, ay2, ay3, -, -, -, -⟩ := b4 (aM (blk_grown (blk_drew BA4.out) hg6 hga.out)); obtain ⟨by0, by1, by2, by3, -, -, -, -⟩ := b4 (aM (blk_grown (blk_drew BB4.out) hg6 hgb.out)); clear ho6 hb6 hg6 hat6))
    refine hK.out _ _ ?_ (fun hHeld2 => ?_)
    ·(first | exact ⟨tk1, bk3, ak0, ak1, ak2, ak3⟩ | exact ⟨l1, l2, l3, l4, l5, l6⟩ | exact ⟨ty1, by3, ay0, ay1, ay2, ay3⟩ | (simp [go_sem, *]; done))
    clear hK K
    try simp only [Act.put, List.setIfInBounds_toArray, List.set_cons_zero, List.set_cons_succ]
    refine wpAnyH_take (i := 13) (oi := _) (v := ?v13_13) rfl (by kernel_rfl) (by kernel_rfl) (by kernel_rfl) (fun _ _ _ h => h) (Or.inl ⟨by rfl, ?y13_13⟩) (by assumption) ?r13_13
    case y13_13 => (intro w hSw; (try dsimp only at hSw); go_simp; (try with_reducible rfl))
    try simp only [Act.put, List.setIfInBounds_toArray, List.set_cons_zero, List.set_cons_succ]
    refine wpAnyH_take (i := 14) (oi := _) (v := ?v14_14) rfl (by kernel_rfl) (by kernel_rfl) (by kernel_rfl) (fun _ _ _ h => h) (Or.inl ⟨by rfl, ?y14_14⟩) (by assumption) ?r14_14
    case y14_14 => (intro w hSw; (try dsimp only at hSw); go_simp; (try with_reducible rfl))
    try simp only [Act.put, List.setIfInBounds_toArray, List.set_cons_zero, List.set_cons_succ]
    refine wpAnyH_ready (rs := [15]) (by kernel_rfl) (by simp) ?_
    refine AllReadyH.cons (o := _) rfl (fun K hK => ?_) ?_
    ·go_simp
     refine hK.out _ _ ?_ (fun hHeld2 => ?_)
     ·(first | exact ⟨tk1, bk3, ak0, ak1, ak2, ak3⟩ | exact ⟨l1, l2, l3, l4, l5, l6⟩ | exact ⟨ty1, by3, ay0, ay1, ay2, ay3⟩ | (simp [go_sem, *]; done))
     clear hK K
     try simp only [Act.put, List.setIfInBounds_toArray, List.set_cons_zero, List.set_cons_succ]
     refine wpAnyH_done (by kernel_rfl) ?_ _
     refine NoPanic.normal ?_
     try go_wp2_with (fail)
     go_end0
     (replace HB := HB6; have GE2 := aM HS.out.ge; have HKg := aM (KeepBut.set_ (KeepBut.refl w6 g none) 4 (.slice A6 (its.length + 1) m6)))
     exact ⟨rfl, .slice A6 (its.length + 1) m6, ⟨bQ, GE2.out, kQ⟩, (by have := R_keepT HR6.out BG6.out (by decide) HKg.out; rw [List.length_append] at this; exact this), KeepBut.set_ (KeepBut.trans (KeepBut.weak HK.out _) (KeepBut.of_grown HG6.out g) (.inl rfl)) 4 _, HT6.out.imp (fun h => (by rw [List.length_append] at h; exact h)) (fun ⟨b, h1, h2⟩ => ⟨b, (by rw [List.length_append] at h1; exact h1), Nat.le_trans HK.out.1 h2⟩)⟩
    exact AllReadyH.nil
   exact AllReadyH.nil
  exact AllReadyH.nil
 exact AllReadyH.nil
end
end Go.Proofs.YtjplnhdplpiogaaGreatDoor.M
end
section
namespace Go.Proofs.YtjplnhdplpiogaaGreatDoor.M
open Go.RowKit Go.Proofs.YtjplnhdplpiogaaGreatDoorW.PrintWords Go.Proofs.YtjplnhdplpiogaaGreatDoorW.PrintLast Go.Proofs.YtjplnhdplpiogaaGreatDoorW.PrintMore
set_option linter.unusedVariables false
set_option linter.unusedSimpArgs false
set_option maxRecDepth 100000
set_option maxHeartbeats 8000000
section
variable {w0 w : World} {g : Nat} {A : Option Addr} {c : Nat} {L : List S40} {i e : Int} {ov iv : Value}
theorem word_sec (hC : Kd.C k40 w0 A L.length L) (hS : St w0 w g A c L i e ov iv) (h0 : 0 ≤ i) (hi1 : i < L.length) (t : S40) (kind : Int) (hkk : kind = 2 ∨ kind = 3 ∨ kind = 4 ∨ kind = 5 ∨ kind = 6 ∨ kind = 7 ∨ kind = 8) (hk46 : entryFn kind = 107) (hd : t.f3.toList ≠ [100, 101, 102]) (hu : t.f3.toList ≠ [117, 115, 101, 99, 109, 97, 112]) (hbg : begunF t.f3 = (kind, true)) (ha1 : (aheadF L i 1).f0 = 1) (ha2 : 0 ≤ (aheadF L i 1).f2) (ha3 : (aheadF L i 1).f2 ≤ 100) (k : Nat) (es : List S50) (j : Int) (hF : secF L (endOf kind) k (i + 1) [] = some (es, j)) (hn : (es.length : Int) = (aheadF L i 1).f2) (its : List S43) (hI : k43.R 43 w w0.heap.size (fun k => some k ≠ ov.ownBlock) iv its) (hlen : its.length < 1000000) (hO : ∀ b, ov.ownBlock = some b → b < w.heap.size) :
  Calls Tryz.prog 31 #[.pointer (some ⟨g, 0, none⟩), .agg (tok4 t)] w fun x w' => x = .returned (.tuple #[]) ∧ ∃ iv', St w0 w' g A c L (j + 1) e ov iv' ∧ k43.R 43 w' w0.heap.size (fun k => some k ≠ ov.ownBlock) iv' (its ++ [⟨kind, t.f1, (⟨#[]⟩ : ByteArray), z40, es⟩]) ∧ KeepBut w w' g iv.ownBlock ∧ (iv'.ownBlock = iv.ownBlock ∨ ∃ b, iv'.ownBlock = some b ∧ w.heap.size ≤ b) := by
 have hu40 := Tryz.underlying40
 have hu43 := Tryz.underlying43
 have hu58 := Tryz.underlying58
 have hL : (L.length : Int) ≤ 9223372036854775807 := by have := Kd.C_max hC; omega
 have hw : wrap64 (i + 1) = i + 1 := by unfold wrap64; omega
 have hS0 := aM hS.blk
 have hS0' := aM hS.below.size
 have hIlt := aM (Kd.R_lt hI)
 obtain ⟨Ai, ci, hiv⟩ := Kd.R_slice hI
 subst hiv
 obtain ⟨a, hA⟩ : ∃ a, a = aheadF L i 1 := ⟨_, rfl⟩
 obtain ⟨b, hB⟩ : ∃ b, b = aheadF L i 2 := ⟨_, rfl⟩
 have hdd : (t.f3.toList == [100, 101, 102]) = false := beq_eq_false_iff_ne.mpr hd
 have huu : (t.f3.toList == [117, 115, 101, 99, 109, 97, 112]) = false := beq_eq_false_iff_ne.mpr hu
 have hak : ((aheadF L i 1).f0 != 1) = false := bne_eq_false_iff_eq.mpr ha1
 have ha4 : decide ((aheadF L i 1).f2 < 0) = false := decide_eq_false (by omega)
 have ha5 : decide (100 < (aheadF L i 1).f2) = false := decide_eq_false (by omega)
 have HF := aM hF
 have HN := aM hn
 have hb : Below w.heap.size w (w.alloc (.cells #[.int .i64 t.f0, .int .i64 t.f1, .int .i64 t.f2, .string t.f3] 40)) := below_alloc (Below.refl _ _) _
 have HS := aM (hS.of_below hb)
 have BT := aM (blk_new w (.cells #[.int .i64 t.f0, .int .i64 t.f1, .int .i64 t.f2, .string t.f3] 40))
 have HK := aM (KeepBut.of_below hb g none)
 have HI := aM hI
 clear hS hI hb hd hu ha1 ha2 ha3 hF hn
 go_enter Tryz.func31, Tryz.ntmps31
 go_wp2_with (first | (go_at_call 54; (with_reducible refine (ahead_calls hC (stC HS) 1 (by decide) h0 hi1).mono ?_); rintro x wp1 ⟨rfl, hbp⟩; replace HS := stQ HS hbp; replace BT := kK2 BT hbp; replace HK := keepQ HK hbp; clear hbp) | (go_at_call 54; (with_reducible refine (ahead_calls hC (stC HS) 2 (by decide) h0 hi1).mono ?_); rintro x wp2 ⟨rfl, hbp⟩; replace HS := stQ HS hbp; replace BT := kK2 BT hbp; replace HK := keepQ HK hbp; clear hbp) | ((with_reducible refine gD 4 ?_); refine bE 4 (cs := #[.int .i64 0, .int .i64 0, .int .i64 0, .string (⟨#[]⟩ : ByteArray)]) (t := 40) ?_; intro ga hg wga hbox hb; have Nga := aM (show g ≠ ga by rw [hg]; exact Nat.ne_of_lt (blk_lt (stC HS).blk)); have Tga := aM (show w.heap.size < ga by rw [hg]; exact blk_lt (stB BT)); replace BT := kK2 BT hb; have BA := aM hbox; replace HS := stQ HS hb; replace HK := keepQ HK hb; clear hb hbox hg) | ((with_reducible refine gD 5 ?_); refine bE 5 (cs := #[.int .i64 0, .int .i64 0, .int .i64 0, .string (⟨#[]⟩ : ByteArray)]) (t := 40) ?_; intro gb hg wgb hbox hb; have Ngb := aM (show g ≠ gb by rw [hg]; exact Nat.ne_of_lt (blk_lt (stC HS).blk)); have Tgb := aM (show w.heap.size < gb by rw [hg]; exact blk_lt (stB BT)); have NAB := aM (show ga ≠ gb by rw [hg]; exact Nat.ne_of_lt (blk_lt (stB BA))); replace BA := kK2 BA hb; replace BT := kK2 BT hb; have BB := aM hbox; replace HS := stQ HS hb; replace HK := keepQ HK hb; clear hb hbox hg; obtain ⟨ak0, ak1, ak2, ak3, am0, am1, am2, am3⟩ := b4 BA; obtain ⟨bk0, bk1, bk2, bk3, bm0, bm1, bm2, bm3⟩ := b4 BB; obtain ⟨tk0, tk1, tk2, tk3, tm0, tm1, tm2, tm3⟩ := b4 BT; have q1 := NAB.out; have q2 := Ne.symm NAB.out; have q3 := Nat.ne_of_lt Tga.out; have q4 := Ne.symm q3; have q5 := Nat.ne_of_lt Tgb.out; have q6 := Ne.symm q5))
 have NA := aM (Ne.symm Nga.out)
 have NB2 := aM (Ne.symm Ngb.out)
 have NAB2 := aM q2
 have NTA := aM q3
 have NTB := aM q5
 have NTA2 := aM q4
 have NTB2 := aM q6
 have GA := aM (Nat.le_trans HS.out.below.size (Nat.le_refl _))
 have Ga := aM (show w0.heap.size ≤ ga from Nat.le_trans hS0'.out (Nat.le_of_lt Tga.out))
 have Gb := aM (show w0.heap.size ≤ gb from Nat.le_trans hS0'.out (Nat.le_of_lt Tgb.out))
 have Gwa := aM (Nat.le_of_lt Tga.out)
 have Gwb := aM (Nat.le_of_lt Tgb.out)
 have HB := aM HS.out.below
 have BG := aM HS.out.blk
 refine norm_c (F := fun W => St w0 W g A c L i e ov (.slice Ai its.length ci) ∧ W.heap[w.heap.size]? = some (.cells #[.int .i64 t.f0, .int .i64 t.f1, .int .i64 t.f2, .string t.f3] 40 (0, 0)) ∧ W.heap[ga]? = some (.cells #[.int .i64 (aheadF L i 1).f0, .int .i64 (aheadF L i 1).f1, .int .i64 (aheadF L i 1).f2, .string (aheadF L i 1).f3] 40 (0, 0)) ∧ W.heap[gb]? = some (.cells #[.int .i64 (aheadF L i 2).f0, .int .i64 (aheadF L i 2).f1, .int .i64 (aheadF L i 2).f2, .string (aheadF L i 2).f3] 40 (0, 0)) ∧ KeepBut w W g none) ⟨⟨bQ, HS.out.ge, kQ⟩, kQ, kQ, kQ, kpQ⟩ ?_
 clear HS BT BA BB HK HB BG ak0 ak1 ak2 ak3 am0 am1 am2 am3 bk0 bk1 bk2 bk3 bm0 bm1 bm2 bm3 tk0 tk1 tk2 tk3 tm0 tm1 tm2 tm3
 rintro w3 ⟨hs3, bt3, ba3, bb3, hk3⟩
 have HS := aM hs3
 have BT := aM bt3
 have BA := aM ba3
 have BB := aM bb3
 have HK := aM hk3
 clear hs3 bt3 ba3 bb3 hk3
 (with_reducible refine (begun_calls _ _).mono ?_)
 rintro x w5 ⟨rfl, hbp⟩
 replace HS := stQ HS hbp
 replace BT := kK2 BT hbp
 replace BA := kK2 BA hbp
 replace BB := kK2 BB hbp
 replace HK := keepQ HK hbp
 clear hbp
 rw [hbg]
 obtain ⟨sc0, sc1, sc2, sc3, sc4, sf0, sf1, sf2, sf3, sf4⟩ := b5 HS.out.blk
 obtain ⟨ak0, ak1, ak2, ak3, am0, am1, am2, am3⟩ := b4 BA
 obtain ⟨bk0, bk1, bk2, bk3, bm0, bm1, bm2, bm3⟩ := b4 BB
 obtain ⟨tk0, tk1, tk2, tk3, tm0, tm1, tm2, tm3⟩ := b4 BT
 have q7 := Nga.out
 have q8 := Ngb.out
 have q9 := NA.out
 have q10 := NB2.out
 have NTG := aM (show w.heap.size ≠ g from Nat.ne_of_gt (by have := blk_lt hS0.out; exact this))
 have q11 := NTG.out
 have q12 := Ne.symm NTG.out
 go_wp2_with (fail)
 have HIr := aM (R_keepT HI.out hS0.out (by decide) HK.out)
 have GE := aM HS.out.ge
 have HB := aM HS.out.below
 have BG := aM HS.out.blk
 have NG3 := aM q12
 have HKs := aM (KeepBut.set_ (KeepBut.refl w5 g none) 1 (.int .i64 (i + 1)))
 refine norm_c (F := fun W => St w0 W g A c L (i + 1) e ov (.slice Ai its.length ci) ∧ k43.R 43 W w0.heap.size (fun k => some k ≠ ov.ownBlock) (.slice Ai its.length ci) its ∧ KeepBut w W g none) ⟨⟨bQ, HS.out.ge, kQ⟩, R_keepT HIr.out HS.out.blk (by decide) HKs.out, KeepBut.set_ HK.out 1 _⟩ ?_
 clear HS BT BA BB HK HB BG HIr HKs HI ak0 ak1 ak2 ak3 am0 am1 am2 am3 bk0 bk1 bk2 bk3 bm0 bm1 bm2 bm3 tk0 tk1 tk2 tk3 tm0 tm1 tm2 tm3 sc0 sc1 sc2 sc3 sc4 sf0 sf1 sf2 sf3 sf4
 rintro w4 ⟨hs4, hi4, hk4⟩
 have HK4 := aM hk4
 (with_reducible refine (section_walk hC hs4 (by omega) kind t.f1 (aheadF L i 1).f2 hkk hk46 k es j HF.out HN.out its hi4 hlen (fun b hb => Nat.lt_of_lt_of_le (hO b hb) (keep_size HK4.out))).mono ?_)
 rintro x w6 ⟨rfl, iv', hs6, hr6, hk6, ht6⟩
 go_wp2_with (fail)
 go_end0
 exact ⟨rfl, iv', hs6, hr6, KeepBut.trans (KeepBut.weak HK4.out _) hk6 (.inl rfl), ht6.imp id (fun ⟨b, h1, h2⟩ => ⟨b, h1, Nat.le_trans (keep_size HK4.out) h2⟩)⟩
end
end Go.Proofs.YtjplnhdplpiogaaGreatDoor.M
end
section
namespace Go.Proofs.YtjplnhdplpiogaaGreatDoor.M
open Go.RowKit Go.Proofs.YtjplnhdplpiogaaGreatDoorW.PrintWords Go.Proofs.YtjplnhdplpiogaaGreatDoorW.PrintLast Go.Proofs.YtjplnhdplpiogaaGreatDoorW.PrintMore
set_option linter.unusedVariables false
set_option linter.unusedSimpArgs false
set_option maxRecDepth 100000
set_option maxHeartbeats 8000000
section
variable {w : World} {b : Nat}
theorem catch_panicking (x y a e : Int) (older : List PanicEntry) (hb : w.heap[b]? = some (.cells #[.int .i64 x, .int .i64 y] 60 (0, 0))) :
  CallsD Tryz.prog 30 #[.pointer (some ⟨b, 0, none⟩)] (.panicking (wrongE a e false :: older)) w fun r u' w' =>
   r = .returned (.tuple #[]) ∧ u' = .panicking (wrongE a e true :: older) ∧ w' = (w.setCell ⟨b, 0, none⟩ (.int .i64 a)).setCell ⟨b, 1, none⟩ (.int .i64 e) := by
 have hu60 := Tryz.underlying60
 obtain ⟨k0, k1, m0, m1⟩ := b2 (aM hb)
 unfold wrongE
 refine callsD_of_wpS Tryz.func30 rfl fun c₀ cs hu => ?_
 apply wpS_seq
 apply wpS_region
 simp [wpOpsS, go_sem, recoverD, hu, Tryz.ntmps30, Exit.thenS]
 apply wpS_seq
 apply wpS_region
 simp [wpOpsS, go_sem, Exit.thenS]
 refine wpS_cond (t := true) (by simp [Act.eval, Array.replicate]) ?_
 simp only [if_true]
 have hta : ∀ W : World, (Instr.typeAssert (.iface 60 (.agg #[.int .i64 a, .int .i64 e])) 20 60 false).run Tryz.prog W = .ok (.agg #[.int .i64 a, .int .i64 e]) W := fun _ => rfl
 apply wpS_region
 simp [wpOpsS, go_sem, hta, k0, k1, m0, m1, hu60, bodyPostS, results, Tryz.results30, Array.replicate]
theorem catch_idle (p : Addr) :
  CallsD Tryz.prog 30 #[.pointer (some p)] .returning w fun r u' w' => r = .returned (.tuple #[]) ∧ u' = .returning ∧ w' = w := by
 refine callsD_of_wpS Tryz.func30 rfl fun c₀ cs hu => ?_
 apply wpS_seq
 apply wpS_region
 simp [wpOpsS, go_sem, recoverD, hu, Tryz.ntmps30, Exit.thenS]
 apply wpS_seq
 apply wpS_region
 simp [wpOpsS, go_sem, Exit.thenS]
 refine wpS_cond (t := false) (by simp [Act.eval, Array.replicate]) ?_
 simp only [Bool.false_eq_true, if_false]
 refine wpS_of_wp (wp_skip ?_)
 cases c₀
 simp_all [bodyPostS, results, Tryz.results30]
end
end Go.Proofs.YtjplnhdplpiogaaGreatDoor.M
end
section
namespace Go.Proofs.YtjplnhdplpiogaaGreatDoor.M
open Go.RowKit Go.Proofs.YtjplnhdplpiogaaGreatDoorW.PrintWords Go.Proofs.YtjplnhdplpiogaaGreatDoorW.PrintLast Go.Proofs.YtjplnhdplpiogaaGreatDoorW.PrintMore
set_option linter.unusedVariables false
set_option linter.unusedSimpArgs false
set_option maxRecDepth 100000
set_option maxHeartbeats 8000000
/-- What a word does: a definition, a section of codes; other words are not told of here. -/
def wordF (L : List S40) (i : Int) (its : List S43) : Option (Int × List S43) :=
 if (rd_T40 L i).f3.toList = [100, 101, 102] ∧ (aheadF L i 2).f0 = 2 ∧ ((aheadF L i 1).f0 = 1 ∨ (aheadF L i 1).f0 = 2 ∨ (aheadF L i 1).f0 = 5) then
  some (i + 1, its ++ [⟨0, (rd_T40 L i).f1, (aheadF L i 2).f3, aheadF L i 1, []⟩])
 else if (rd_T40 L i).f3.toList ≠ [100, 101, 102] ∧ (rd_T40 L i).f3.toList ≠ [117, 115, 101, 99, 109, 97, 112] ∧ (begunF (rd_T40 L i).f3).2 = true ∧ ((begunF (rd_T40 L i).f3).1 = 4 ∨ (begunF (rd_T40 L i).f3).1 = 6) ∧ (aheadF L i 1).f0 = 1 ∧ 0 ≤ (aheadF L i 1).f2 ∧ (aheadF L i 1).f2 ≤ 100 then
  (secF L (endOf (begunF (rd_T40 L i).f3).1) (L.length + 1) (i + 1) []).bind fun r => if (r.1.length : Int) = (aheadF L i 1).f2 then some (r.2 + 1, its ++ [⟨(begunF (rd_T40 L i).f3).1, (rd_T40 L i).f1, (⟨#[]⟩ : ByteArray), z40, r.1⟩]) else none
 else none
/-- What is open behind a token that is no word, or is deep. -/
def pairsF (opn : List Int) (k : Int) : Option (List Int) :=
 if k = 6 ∨ k = 8 ∨ k = 10 then (if opn.length < 32 then some (opn ++ [k]) else none)
 else if k = 7 ∨ k = 9 ∨ k = 11 then (if opn ≠ [] ∧ opn.getLastD 0 + 1 = k then some opn.dropLast else none)
 else some opn
section
variable {w0 w : World} {g : Nat} {A : Option Addr} {c : Nat} {L : List S40} {i e : Int} {ov iv : Value}
theorem word_calls (hC : Kd.C k40 w0 A L.length L) (hS : St w0 w g A c L i e ov iv) (h0 : 0 ≤ i) (hi1 : i < L.length) (its : List S43) (hI : k43.R 43 w w0.heap.size (fun k => some k ≠ ov.ownBlock) iv its) (hlen : its.length < 1000000) (hO : ∀ b, ov.ownBlock = some b → b < w.heap.size) (i' : Int) (its' : List S43) (h : wordF L i its = some (i', its')) :
  Calls Tryz.prog 31 #[.pointer (some ⟨g, 0, none⟩), .agg (tok4 (rd_T40 L i))] w fun x w' => x = .returned (.tuple #[]) ∧ ∃ iv', St w0 w' g A c L i' e ov iv' ∧ k43.R 43 w' w0.heap.size (fun k => some k ≠ ov.ownBlock) iv' its' ∧ KeepBut w w' g iv.ownBlock ∧ (iv'.ownBlock = iv.ownBlock ∨ ∃ b, iv'.ownBlock = some b ∧ w.heap.size ≤ b) := by
 unfold wordF at h
 split at h
 ·rename_i hc
  obtain ⟨rfl, rfl⟩ : i + 1 = i' ∧ _ = its' := by injection h with h; injection h with h1 h2; exact ⟨h1, h2⟩
  exact word_def hC hS h0 hi1 (rd_T40 L i) hc.1 hc.2.1 hc.2.2 its hI hlen hO
 ·split at h
  ·rename_i hc
   obtain ⟨h1, h2, h3, h4, h5, h6, h7⟩ := hc
   obtain ⟨⟨es, j⟩, hs, h⟩ := Option.bind_eq_some_iff.mp h
   dsimp only at h
   split at h
   ·rename_i hl
    obtain ⟨rfl, rfl⟩ : j + 1 = i' ∧ _ = its' := by injection h with h; injection h with h1 h2; exact ⟨h1, h2⟩
    have hk : entryFn (begunF (rd_T40 L i).f3).1 = 107 := by rcases h4 with h | h <;> rw [h] <;> rfl
    exact word_sec hC hS h0 hi1 (rd_T40 L i) (begunF (rd_T40 L i).f3).1 (by omega) hk h1 h2 (by rw [← h3]) h5 h6 h7 (L.length + 1) es j hs hl its hI hlen hO
   ·cases h
  ·cases h
theorem pairs_calls (hS : St w0 w g A c L i e ov iv) (h0 : 0 ≤ i) (h1 : i < 9223372036854775807) (opn : List Int) (hO : (Kd.int .i64).R 3 w w0.heap.size (fun _ => True) ov opn) (hb : ∀ k ∈ opn, k = 6 ∨ k = 8 ∨ k = 10) (t : S40) (opn' : List Int) (h : pairsF opn t.f0 = some opn') :
  Calls Tryz.prog 32 #[.pointer (some ⟨g, 0, none⟩), .agg (tok4 t)] w fun x w' => x = .returned (.tuple #[]) ∧ ∃ ov', St w0 w' g A c L (i + 1) e ov' iv ∧ (Kd.int .i64).R 3 w' w0.heap.size (fun _ => True) ov' opn' ∧ KeepBut w w' g ov.ownBlock ∧ (ov'.ownBlock = ov.ownBlock ∨ ∃ b, ov'.ownBlock = some b ∧ w.heap.size ≤ b) := by
 unfold pairsF at h
 split at h
 ·rename_i hk
  split at h
  ·rename_i hn
   obtain rfl := Option.some.inj h
   exact pairs_open hS h0 h1 opn hO t hk hn
  ·cases h
 ·split at h
  ·rename_i hk0 hk
   split at h
   ·rename_i hc
    obtain rfl := Option.some.inj h
    obtain ⟨pre, k, rfl⟩ : ∃ pre k, opn = pre ++ [k] := ⟨opn.dropLast, opn.getLast hc.1, (List.dropLast_concat_getLast hc.1).symm⟩
    have hlast : (pre ++ [k]).getLastD 0 = k := by simp
    have hkk := hb k (by simp)
    rw [hlast] at hc
    rw [List.dropLast_concat]
    refine (pairs_close hS h0 h1 pre k hO t hk hc.2.symm).mono ?_
    rintro x w' ⟨rfl, ov', hs, hr, hkb, ho⟩
    exact ⟨rfl, ov', hs, hr, KeepBut.weak hkb _, .inl ho⟩
   ·cases h
  ·rename_i hk0 hk
   obtain rfl := Option.some.inj h
   obtain ⟨Ao, m, hov⟩ := Kd.R_slice hO
   refine (pairs_other hS h0 h1 opn.length m Ao hov t (by omega)).mono ?_
   rintro x w' ⟨rfl, hs, hkb⟩
   exact ⟨rfl, ov, hs, R_keepT hO hS.blk (by decide) hkb, KeepBut.weak hkb _, .inl rfl⟩
end
end Go.Proofs.YtjplnhdplpiogaaGreatDoor.M
end
section
namespace Go.Proofs.YtjplnhdplpiogaaGreatDoor.M
open Go.RowKit Go.Proofs.YtjplnhdplpiogaaGreatDoorW.PrintWords Go.Proofs.YtjplnhdplpiogaaGreatDoorW.PrintLast Go.Proofs.YtjplnhdplpiogaaGreatDoorW.PrintMore
set_option linter.unusedVariables false
set_option linter.unusedSimpArgs false
set_option maxRecDepth 100000
set_option maxHeartbeats 8000000
def runF (L : List S40) : Nat → Int → List Int → List S43 → Option (Option (List S43))
 | 0, _, _, _ => none
 | k + 1, i, opn, its =>
  if i < L.length then
   (if (rd_T40 L i).f0 = 3 ∧ opn = [] then (if its.length < 1000000 then (wordF L i its).bind fun r => runF L k r.1 [] r.2 else none)
   else (pairsF opn (rd_T40 L i).f0).bind fun opn' => runF L k (i + 1) opn' its)
  else if opn = [] then some (some its) else some none
theorem secF_pos {L : List S40} {nm : ByteArray} : ∀ {k : Nat} {i : Int} {es es' : List S50} {j : Int}, 0 ≤ i → secF L nm k i es = some (es', j) → 0 ≤ j
 | 0, _, _, _, _, _, h => by cases h
 | k + 1, i, es, es', j, h0, h => by
  rw [secF] at h
  split at h
  ·split at h
   ·injection h with h; injection h with h1 h2; omega
   ·split at h
    ·obtain ⟨x, _, h⟩ := Option.bind_eq_some_iff.mp h
     exact secF_pos (by omega) h
    ·cases h
  ·cases h
theorem wordF_pos {L : List S40} {i i' : Int} {its its' : List S43} (h0 : 0 ≤ i) (h : wordF L i its = some (i', its')) : 0 ≤ i' := by
 unfold wordF at h
 split at h
 ·injection h with h; injection h with h1 h2; omega
 ·split at h
  ·obtain ⟨⟨es, j⟩, hs, h⟩ := Option.bind_eq_some_iff.mp h
   dsimp only at h
   split at h
   ·injection h with h; injection h with h1 h2
    have := secF_pos (by omega) hs
    omega
   ·cases h
  ·cases h
theorem pairsF_kinds {opn opn' : List Int} {k : Int} (hb : ∀ q ∈ opn, q = 6 ∨ q = 8 ∨ q = 10) (h : pairsF opn k = some opn') : ∀ q ∈ opn', q = 6 ∨ q = 8 ∨ q = 10 := by
 unfold pairsF at h
 split at h
 ·rename_i hk
  split at h
  ·obtain rfl := Option.some.inj h
   intro q hq
   rcases List.mem_append.mp hq with h | h
   ·exact hb q h
   ·rw [List.mem_singleton] at h; subst h; exact hk
  ·cases h
 ·split at h
  ·split at h
   ·obtain rfl := Option.some.inj h
    exact fun q hq => hb q ((List.dropLast_sublist opn).subset hq)
   ·cases h
  ·obtain rfl := Option.some.inj h
   exact hb
section
variable {α : Type} {d : Kd α} {e base g t : Nat} {w w1 : World} {ok : Nat → Prop} {v ov ov' : Value} {xs : List α} {cs : Array Value}
theorem R_next (h : d.R e w base (fun k => some k ≠ ov.ownBlock) v xs) (hb : w.heap[g]? = some (.cells cs t (0, 0))) (ht : ∀ q, q ∈ e :: d.E → q ≠ t) (hk : KeepBut w w1 g ov.ownBlock) (ho : ov'.ownBlock = ov.ownBlock ∨ ∃ b, ov'.ownBlock = some b ∧ w.heap.size ≤ b) : d.R e w1 base (fun k => some k ≠ ov'.ownBlock) v xs :=
 Kd.R_mono (Kd.R_step (Kd.R_bound h) (fun k hq hlt => hk.2 k hlt (fun hkg => by
  subst hkg
  obtain ⟨q, hq, cells, hc⟩ := hq.2.2.2
  rw [hb] at hc
  injection hc with h1
  injection h1 with _ h2
  exact ht q hq h2.symm) hq.1)) (fun k hq => by
  rcases ho with h | ⟨b, h1, h2⟩
  ·rw [h]; exact hq.1
  ·rw [h1]
   intro he
   injection he with he
   have := hq.2.2.1
   omega)
theorem R_int_row {ys : List Int} {row : Option Nat} (h : (Kd.int .i64).R 3 w base ok v ys) (hb : w.heap[g]? = some (.cells cs t (0, 0))) (ht : 3 ≠ t) (hk : KeepBut w w1 g row) (hne : ∀ k, row = some k → some k ≠ v.ownBlock) : (Kd.int .i64).R 3 w1 base (fun _ => True) v ys := by
 have h2 : (Kd.int .i64).R 3 w base (fun k => v.ownBlock = some k) v ys := ⟨fun k hk => hk, h.2⟩
 refine Kd.R_mono (Kd.R_step h2 (fun k hv hlt => hk.2 k hlt (fun hkg => ?_) (fun hr => ?_))) (fun _ _ => trivial)
 ·subst hkg
  exact Kd.R_ne h hb ht hv.symm
 ·exact hne k hr.symm hv.symm
end
def RunPost (w0 : World) (g : Nat) (A : Option Addr) (c : Nat) (L : List S40) (e : Int) : Option (List S43) → Ending → World → Prop
 | some its, x, w' => x = .returned (.agg #[.int .i64 e, .int .i64 0]) ∧ ∃ i ov iv, St w0 w' g A c L i e ov iv ∧ k43.R 43 w' w0.heap.size (fun k => some k ≠ ov.ownBlock) iv its
 | none, x, w' => x = .returned (.agg #[.int .i64 e, .int .i64 2]) ∧ Below w0.heap.size w0 w'
section
variable {w0 w : World} {g : Nat} {A : Option Addr} {c : Nat} {L : List S40} {e : Int}
theorem run_calls (hC : Kd.C k40 w0 A L.length L) (hS : St w0 w g A c L 0 e (.slice none 0 0) (.slice none 0 0)) (k : Nat) (r : Option (List S43)) (h : runF L k 0 [] [] = some r) :
  Calls Tryz.prog 20 #[.pointer (some ⟨g, 0, none⟩)] w fun x w' => RunPost w0 g A c L e r x w' := by
 have hu40 := Tryz.underlying40
 have hu58 := Tryz.underlying58
 have hu60 := Tryz.underlying60
 have hmf : ∀ (fn : Fn) (first cap : Array Value) (w : World), (Instr.makeFunc fn first cap).run Tryz.prog w = .ok (.func fn first cap) w := fun _ _ _ _ => rfl
 have hL : (L.length : Int) ≤ 9223372036854775807 := by have := Kd.C_max hC; omega
 have HS := aM hS
 have HH := aM h
 have HK := aM (KeepBut.refl w g none)
 clear hS h
 go_enter_defers Tryz.func20, Tryz.ntmps20
 go_wp2_with (first | ((with_reducible refine gD 2 ?_); refine bE 2 (cs := #[.int .i64 0, .int .i64 0]) (t := 60) ?_; intro gr hg w1 hbox hb; have BR := aM hbox; have NR := aM (show g ≠ gr by rw [hg]; exact Nat.ne_of_lt (blk_lt HS.out.blk)); have GR := aM (show w0.heap.size ≤ gr by rw [hg]; exact HS.out.below.size); replace HS := stQ HS hb; clear hb hbox hg))
 go_loopg [] k (fun kq w' => ∃ (i : Int) (opn : List Int) (its : List S43) (ov iv : Value), Aside0 (runF L kq i opn its = some r) ∧ Aside0 (kq ≤ k) ∧ Aside0 (0 ≤ i) ∧ Aside0 (∀ k ∈ opn, k = 6 ∨ k = 8 ∨ k = 10) ∧ Aside0 (St w0 w' g A c L i e ov iv) ∧ Aside0 (w'.heap[gr]? = some (.cells #[.int .i64 0, .int .i64 0] 60 (0, 0))) ∧ Aside0 ((Kd.int .i64).R 3 w' w0.heap.size (fun _ => True) ov opn) ∧ Aside0 (k43.R 43 w' w0.heap.size (fun k => some k ≠ ov.ownBlock) iv its))
 case atStart => exact ⟨0, [], [], .slice none 0 0, .slice none 0 0, HH, ⟨Nat.le_refl _⟩, ⟨Int.le_refl 0⟩, ⟨by simp⟩, ⟨stC HS⟩, ⟨stB BR⟩, ⟨Kd.R_nil _ _ _ _ _⟩, ⟨Kd.R_nil _ _ _ _ _⟩⟩
 case round =>
  clear HH HS BR HK
  obtain ⟨i, opn, its, ov, iv, HF, HQ, HI0, HBK, HS, BR, HO, HI⟩ := hrel
  cases gk with
  | zero => exact absurd HF.out (by simp [runF])
  | succ k1 =>
   have hF := HF.out
   clear HF
   rw [runF] at hF
   obtain ⟨Ao, mo, hov⟩ := Kd.R_slice HO.out
   subst hov
   obtain ⟨sc0, sc1, sc2, sc3, sc4, sf0, sf1, sf2, sf3, sf4⟩ := b5 HS.out.blk
   split at hF
   ·rename_i hlt
    have hc : decide (i < (L.length : Int)) = true := decide_eq_true hlt
    have h0 := HI0.out
    obtain ⟨ad, hA, x0, x1, x2, x3⟩ := at_T40 (Kd.C_below hC HS.out.below) i h0 hlt
    subst hA
    have p9 := eq_true h0
    have q9 := eq_true hlt
    have HLT := aM hlt
    have NX := aM (Nat.ne_of_lt (blk_lt HS.out.blk))
    have NX2 := aM (Nat.ne_of_lt (blk_lt BR.out))
    have GX := aM HS.out.below.size
    have HB := aM HS.out.below
    have BG := aM HS.out.blk
    have a0 := al_cell (.cells #[.int .i64 0, .int .i64 0, .int .i64 0, .string (⟨#[]⟩ : ByteArray)] 40) sc0
    have a1 := al_cell (.cells #[.int .i64 0, .int .i64 0, .int .i64 0, .string (⟨#[]⟩ : ByteArray)] 40) sc1
    have y0 := al_cell (.cells #[.int .i64 0, .int .i64 0, .int .i64 0, .string (⟨#[]⟩ : ByteArray)] 40) x0
    have y1 := al_cell (.cells #[.int .i64 0, .int .i64 0, .int .i64 0, .string (⟨#[]⟩ : ByteArray)] 40) x1
    have y2 := al_cell (.cells #[.int .i64 0, .int .i64 0, .int .i64 0, .string (⟨#[]⟩ : ByteArray)] 40) x2
    have y3 := al_cell (.cells #[.int .i64 0, .int .i64 0, .int .i64 0, .string (⟨#[]⟩ : ByteArray)] 40) x3
    have n0 := al_new wr #[.int .i64 0, .int .i64 0, .int .i64 0, .string (⟨#[]⟩ : ByteArray)] 40 0 rfl
    have n1 := al_new wr #[.int .i64 0, .int .i64 0, .int .i64 0, .string (⟨#[]⟩ : ByteArray)] 40 1 rfl
    have n2 := al_new wr #[.int .i64 0, .int .i64 0, .int .i64 0, .string (⟨#[]⟩ : ByteArray)] 40 2 rfl
    have n3 := al_new wr #[.int .i64 0, .int .i64 0, .int .i64 0, .string (⟨#[]⟩ : ByteArray)] 40 3 rfl
    have z0 := al_fz wr #[.int .i64 0, .int .i64 0, .int .i64 0, .string (⟨#[]⟩ : ByteArray)] 40
    have hFF := aM hF
    clear hF
    go_wp2_with (fail)
    go_quiet (fail)
    try go_wp2_with (fail)
    go_region
    refine norm_w (F := fun W => St w0 W g (some ad) c L i e (.slice Ao opn.length mo) iv ∧ W.heap[gr]? = some (.cells #[.int .i64 0, .int .i64 0] 60 (0, 0)) ∧ (Kd.int .i64).R 3 W w0.heap.size (fun _ => True) (.slice Ao opn.length mo) opn ∧ k43.R 43 W w0.heap.size (fun k => some k ≠ (Value.slice Ao opn.length mo).ownBlock) iv its ∧ W.heap[wr.heap.size]? = some (.cells (tok4 (rd_T40 L i)) 40 (0, 0))) ⟨⟨bQ, HS.out.ge, kQ⟩, kQ, R_keepT (Kd.R_alloc (Kd.R_drewN HO.out _) _) (blk_newN wr _ _) (by decide) (KeepBut.set_ (KeepBut.set_ (KeepBut.set_ (KeepBut.set_ (KeepBut.refl _ _ none) 0 _) 1 _) 2 _) 3 _), R_keepT (Kd.R_alloc (Kd.R_drewN HI.out _) _) (blk_newN wr _ _) (by decide) (KeepBut.set_ (KeepBut.set_ (KeepBut.set_ (KeepBut.set_ (KeepBut.refl _ _ none) 0 _) 1 _) 2 _) 3 _), kQ3⟩ ?_
    clear HS BR HO HI HB BG sc0 sc1 sc2 sc3 sc4 sf0 sf1 sf2 sf3 sf4 x0 x1 x2 x3 a0 a1 y0 y1 y2 y3 n0 n1 n2 n3 z0
    rintro w4 ⟨hs4, br4, ho4, hi4, bt4⟩
    have HS := aM hs4
    have BR := aM br4
    have HO := aM ho4
    have HI := aM hi4
    obtain ⟨sc0, sc1, sc2, sc3, sc4, sf0, sf1, sf2, sf3, sf4⟩ := b5 HS.out.blk
    obtain ⟨tk0, tk1, tk2, tk3, tm0, tm1, tm2, tm3⟩ := b4 (aM bt4)
    have hgr := aM (Kd.R_ne ho4 br4 (by decide))
    have hgi := aM (Kd.R_ne hi4 br4 (by decide))
    clear hs4 br4 ho4 hi4 bt4
    have hF := hFF.out
    split at hF
    ·rename_i hcase
     obtain ⟨hk3, ho⟩ := hcase
     have hb3 : ((rd_T40 L i).f0 == 3) = true := beq_iff_eq.mpr hk3
     subst ho
     split at hF
     rotate_left
     ·cases hF
     rename_i hlen
     obtain ⟨⟨i', its'⟩, hw, hF⟩ := Option.bind_eq_some_iff.mp hF
     dsimp only at hF
     have HF := aM hF
     have HW := aM hw
     have HLEN := aM hlen
     clear hF hw hlen hk3 hFF
     go_wp2_with (first | (go_at_call 31; (with_reducible refine (word_calls hC (stC HS) h0 HLT.out its HI.out HLEN.out (fun b hb => Kd.R_lt HO.out b hb) i' its' HW.out).mono ?_); rintro x w6 ⟨rfl, iv', hs6, hr6, hk6, ht6⟩))
     have HO6 := R_int_row HO.out HS.out.blk (by decide) hk6 (fun q hq => by have := HI.out.1 q hq; exact this)
     have BR6 := KeepBut.blk hk6 BR.out (Ne.symm NR.out) hgi.out
     go_roundg k1
     case measure => have := HQ.out; omega
     case rel => exact ⟨i', [], its', _, iv', HF, ⟨by have := HQ.out; omega⟩, ⟨wordF_pos h0 HW.out⟩, ⟨by simp⟩, ⟨hs6⟩, ⟨BR6⟩, ⟨HO6⟩, ⟨hr6⟩⟩
    ·rename_i hcase
     obtain ⟨opn', hp, hF⟩ := Option.bind_eq_some_iff.mp hF
     have HF := aM hF
     have HP := aM hp
     clear hF hp hFF
     by_cases hk3 : (rd_T40 L i).f0 = 3
     ·have hb3 : ((rd_T40 L i).f0 == 3) = true := beq_iff_eq.mpr hk3
      have hb4 : (((opn.length : Nat) : Int) == 0) = false := beq_eq_false_iff_ne.mpr (by have : opn ≠ [] := fun h => hcase ⟨hk3, h⟩; have := List.length_pos_iff.mpr this; omega)
      clear hk3 hcase
      go_wp2_with (first | (go_at_call 32; (with_reducible refine (pairs_calls (stC HS) h0 (by have := HLT.out; omega) opn HO.out HBK.out (rd_T40 L i) opn' HP.out).mono ?_); rintro x w6 ⟨rfl, ov', hs6, hr6, hk6, ht6⟩))
      have HI6 := R_next HI.out HS.out.blk (by decide) hk6 ht6
      have BR6 := KeepBut.blk hk6 BR.out (Ne.symm NR.out) hgr.out
      go_roundg k1
      case measure => have := HQ.out; omega
      case rel => exact ⟨i + 1, opn', its, ov', iv, HF, ⟨by have := HQ.out; omega⟩, ⟨by omega⟩, ⟨pairsF_kinds HBK.out HP.out⟩, ⟨hs6⟩, ⟨BR6⟩, ⟨hr6⟩, ⟨HI6⟩⟩
     ·have hb3 : ((rd_T40 L i).f0 == 3) = false := beq_eq_false_iff_ne.mpr hk3
      clear hk3 hcase
      go_wp2_with (first | (go_at_call 32; (with_reducible refine (pairs_calls (stC HS) h0 (by have := HLT.out; omega) opn HO.out HBK.out (rd_T40 L i) opn' HP.out).mono ?_); rintro x w6 ⟨rfl, ov', hs6, hr6, hk6, ht6⟩))
      have HI6 := R_next HI.out HS.out.blk (by decide) hk6 ht6
      have BR6 := KeepBut.blk hk6 BR.out (Ne.symm NR.out) hgr.out
      go_roundg k1
      case measure => have := HQ.out; omega
      case rel => exact ⟨i + 1, opn', its, ov', iv, HF, ⟨by have := HQ.out; omega⟩, ⟨by omega⟩, ⟨pairsF_kinds HBK.out HP.out⟩, ⟨hs6⟩, ⟨BR6⟩, ⟨hr6⟩, ⟨HI6⟩⟩
   ·rename_i hlt
    have hc : decide (i < (L.length : Int)) = false := decide_eq_false hlt
    split at hF
    ·rename_i ho
     subst ho
     obtain rfl := Option.some.inj hF
     obtain ⟨rk0, rk1, rm0, rm1⟩ := b2 BR
     go_wp2_with (fail)
     go_quiet (fail)
     try go_wp2_with (fail)
     refine leaves_cons (f := 30) (args := #[.pointer (some ⟨gr, 0, none⟩)]) (by simp) (by simp [go_sem]) ?_
     refine (catch_idle ⟨gr, 0, none⟩).mono ?_
     rintro e' u' w'' ⟨rfl, rfl, rfl⟩
     have HB := aM HS.out.below
     have BG := aM HS.out.blk
     have NR2 := aM (Ne.symm NR.out)
     have HIr := aM (Kd.R_drewN HI.out nq)
     have BRr := aM (blk_drewN BR.out nq)
     refine Exists.intro _ (And.intro (results_cell_row rfl _ _ gr 60 #[.int .i64 e, .int .i64 0] (0, 0) _ rfl kQ Tryz.underlying60 rfl (by kernel_rfl)) ?_)
     exact ⟨rfl, i, _, iv, ⟨bQ, HS.out.ge, kQ⟩, R_keepT HIr.out BRr.out (by decide) (KeepBut.set_ (KeepBut.set_ (KeepBut.refl _ gr none) 0 _) 1 _)⟩
    ·rename_i ho
     obtain rfl := Option.some.inj hF
     have hp0 : 0 < opn.length := Nat.pos_of_ne_zero (fun h => ho (List.eq_nil_of_length_eq_zero h))
     have hpos : decide (0 < opn.length) = true := decide_eq_true hp0
     obtain ⟨rk0, rk1, rm0, rm1⟩ := b2 BR
     have HB := aM (Below.refl wr.heap.size wr)
     go_wp2_with (fail)
     go_quiet (fail)
     try go_wp2_with (first | (go_at_call 33; (with_reducible refine (fail_calls _ _ _).mono ?_); rintro x wf ⟨rfl, hbf⟩))
     refine leaves_cons (f := 30) (args := #[.pointer (some ⟨gr, 0, none⟩)]) (by simp) (by simp [go_sem]) ?_
     refine (catch_panicking 0 0 e 2 [] (blk_below (stB BR) hbf)).mono ?_
     rintro e' u' w'' ⟨rfl, rfl, rfl⟩
     have BRr := aM (blk_below (stB BR) hbf)
     have HB := aM ((stC HS).of_below hbf).below
     refine Exists.intro _ (And.intro (results_cell_row rfl _ _ gr 60 #[.int .i64 e, .int .i64 2] (0, 0) _ rfl kQ Tryz.underlying60 rfl (by kernel_rfl)) ?_)
     exact ⟨rfl, bQ⟩
end
end Go.Proofs.YtjplnhdplpiogaaGreatDoor.M
end
section
namespace Go.Proofs.YtjplnhdplpiogaaGreatDoor.M
open Go.RowKit Go.Proofs.YtjplnhdplpiogaaGreatDoorW.PrintWords Go.Proofs.YtjplnhdplpiogaaGreatDoorW.PrintLast Go.Proofs.YtjplnhdplpiogaaGreatDoorW.PrintMore
set_option linter.unusedVariables false
set_option linter.unusedSimpArgs false
set_option maxRecDepth 100000
set_option maxHeartbeats 8000000
def syn_Parse.f (l0 : List S40) (a1 : Int) : Option (List S43 × Int × Int) := (runF l0 (l0.length + 1) 0 [] []).bind fun r => match r with
 | some its => some (its, a1, 0)
 | none => some ([], a1, 2)
theorem syn_Parse.calls (A0 : Option Addr) (c0 : Nat) (l0 : List S40) (a1 : Int) (r1 : List S43) (r2 r3 : Int) (w : World) (hr0 : Kd.C k40 w A0 l0.length l0) (hc0 : l0.length ≤ c0) (h : syn_Parse.f l0 a1 = some (r1, r2, r3)) :
  Calls Tryz.prog 10 #[.slice A0 l0.length c0, .int .i64 a1] w fun e w' => ∃ v0_ : Value, e = .returned (.tuple #[v0_, .int .i64 r2, .int .i64 r3]) ∧ Kd.R k43 43 w' w.heap.size (fun _ => True) v0_ r1 ∧ Below w.heap.size w w' := by
 have hu58 := Tryz.underlying58
 have hu60 := Tryz.underlying60
 unfold syn_Parse.f at h
 obtain ⟨r, hr, h⟩ := Option.bind_eq_some_iff.mp h
 have HR := aM hr
 have hb : Below w.heap.size w (w.alloc (.cells #[.slice A0 l0.length c0, .int .i64 0, .int .i64 a1, .slice none 0 0, .slice none 0 0] 58)) := below_alloc (Below.refl _ _) _
 have HS := aM (⟨hb, Nat.le_refl _, blk_new _ _⟩ : St w (w.alloc (.cells #[.slice A0 l0.length c0, .int .i64 0, .int .i64 a1, .slice none 0 0, .slice none 0 0] 58)) w.heap.size A0 c0 l0 0 a1 (.slice none 0 0) (.slice none 0 0))
 clear hb hr
 cases r with
 | some its =>
  obtain ⟨rfl, rfl, rfl⟩ : its = r1 ∧ a1 = r2 ∧ (0 : Int) = r3 := by simpa using h
  clear h
  go_enter Tryz.func10, Tryz.ntmps10
  go_wp2_with (first | (go_at_call 20; (with_reducible refine (run_calls hr0 (stC HS) _ _ HR.out).mono ?_); rintro x w2 ⟨rfl, i, ov, iv, hs2, hi2⟩; obtain ⟨sc0, sc1, sc2, sc3, sc4, sf0, sf1, sf2, sf3, sf4⟩ := b5 (hs2.alloc (.cells #[.int .i64 a1, .int .i64 0] 60)).blk))
  go_quiet (fail)
  try go_wp2_with (fail)
  go_ret3
  have HB := aM hs2.below
  have HI2 := aM hi2
  exact ⟨iv, rfl, Kd.R_mono (mQ HI2) (fun _ _ => trivial), bQ⟩
 | none =>
  obtain ⟨rfl, rfl, rfl⟩ : [] = r1 ∧ a1 = r2 ∧ (2 : Int) = r3 := by simpa using h
  clear h
  go_enter Tryz.func10, Tryz.ntmps10
  go_wp2_with (first | (go_at_call 20; (with_reducible refine (run_calls hr0 (stC HS) _ _ HR.out).mono ?_); rintro x w2 ⟨rfl, hb2⟩))
  go_quiet (fail)
  try go_wp2_with (fail)
  go_ret3
  have HB := aM hb2
  exact ⟨_, rfl, Kd.R_nil _ _ _ _ _, bQ⟩
def hornbookref05_Same.f (a b : List S69) : Option Bool := match a, b with
 | [], [] => some true
 | _, _ => none
theorem hornbookref05_Same.calls (A0 : Option Addr) (c0 : Nat) (l0 : List S69) (A1 : Option Addr) (c1 : Nat) (l1 : List S69) (r : Bool) (w : World) (hr0 : Kd.C k69 w A0 l0.length l0) (hc0 : l0.length ≤ c0) (hr1 : Kd.C k69 w A1 l1.length l1) (hc1 : l1.length ≤ c1) (h : hornbookref05_Same.f l0 l1 = some r) :
  Calls Tryz.prog 12 #[.slice A0 l0.length c0, .slice A1 l1.length c1] w fun e w' => e = .returned (.bool r) ∧ Below w.heap.size w w' := by
 unfold hornbookref05_Same.f at h
 split at h
 ·obtain rfl := Option.some.inj h
  have HB := aM (Below.refl w.heap.size w)
  go_enter Tryz.func12, Tryz.ntmps12
  go_wp2_with (fail)
  go_loopg [5] 0 (fun kq v5 w' => v5 = .int .i64 0 ∧ w' = w)
  case atStart => exact ⟨rfl, rfl⟩
  case round =>
   obtain ⟨rfl, rfl⟩ := hrel
   go_wp2_with (fail)
   go_ret
   exact ⟨rfl, bQ⟩
 ·cases h
end Go.Proofs.YtjplnhdplpiogaaGreatDoor.M
end
section
namespace Go.Proofs.YtjplnhdplpiogaaGreatDoor.M
open Go.RowKit Go.Proofs.YtjplnhdplpiogaaGreatDoorW.PrintWords Go.Proofs.YtjplnhdplpiogaaGreatDoorW.PrintLast Go.Proofs.YtjplnhdplpiogaaGreatDoorW.PrintMore
attribute [local go_sem] max2_int min2_int max_two min_two max_three min_three max_four min_four
set_option linter.unusedVariables false
set_option linter.unusedSimpArgs false
def hornbooklaw05_ents.l0 : Nat → List (S50) → List (S83) → Int → Option ((List (S83)))
 | 0, _, _, _ => none
 | k + 1, x0, x3, x4 => if x4 < (x0.length : Int) then (if 0 ≤ x4 then (if x3.length < 1599289640401 then (hornbooklaw05_ents.l0 k x0 (x3 ++ [(⟨(⟨(rd_T50 x0 x4).f0.f0, (rd_T50 x0 x4).f0.f1⟩ : S46), (⟨(rd_T50 x0 x4).f1.f0, (rd_T50 x0 x4).f1.f1⟩ : S46), (rd_T50 x0 x4).f2, (rd_T50 x0 x4).f3, (rd_T50 x0 x4).f4⟩ : S83)]) (wrap64 (x4 + 1))) else (none)) else (none)) else (some x3)
def hornbooklaw05_ents.f (k : Nat) (l0 : List (S50)) : Option ((List (S83))) := hornbooklaw05_ents.l0 k l0 ([] : List (S83)) 0
def hornbooklaw05_ents.T5 : Bool × List (List Nat × List Nat) := (true, [([], []), ([], []), ([], []), ([1, 2], [1, 2]), ([3], [3]), ([4], [4]), ([], []), ([], []), ([6, 7], [6, 7]), ([8], [8]), ([9], [9]), ([], []), ([], []), ([11, 12], [11, 12]), ([13], [13]), ([14], [14]), ([], []), ([], []), ([16, 17], [16, 17]), ([18], [18]), ([19], [19]), ([], []), ([], []), ([21, 22], [21, 22]), ([23], [23]), ([24], [24]), ([5, 10, 15, 20, 25], [5, 10, 15, 20, 25]), ([26], [26]), ([0, 27], [0, 27]), ([28, 28, 0, 1, 2, 3, 4, 5, 6, 7, 8, 9, 10, 11, 12, 13, 14, 15, 16, 17, 18, 19, 20, 21, 22, 23, 24, 25, 26, 27, 28], [0, 28])])
def hornbooklaw05_ents.B5 : List Nat := [0, 0, 0, 6, 14, 30, 0, 0, 192, 448, 960, 0, 0, 6144, 14336, 30720, 0, 0, 196608, 458752, 983040, 0, 0, 6291456, 14680064, 31457280, 67108862, 134217726, 268435455, 536870911]
theorem hornbooklaw05_ents.tab5 : rtab .any (opsOf Tryz.f24 5) = hornbooklaw05_ents.T5 := by kernel_rfl
theorem hornbooklaw05_ents.bits5 : waitsOk hornbooklaw05_ents.T5.2 hornbooklaw05_ents.B5 = true := by kernel_rfl
set_option maxHeartbeats 8000000 in
set_option maxRecDepth 100000 in
theorem hornbooklaw05_ents.calls (k : Nat) (P0_ : Nat → Prop) (A0 : Option Addr) (c0 : Nat) (l0 : List (S50)) (r : List (S83)) (w : World) (hs0 : Kd.V k50 50 w w.heap.size (fun k_ => P0_ k_) (.slice A0 l0.length c0) l0) (h : hornbooklaw05_ents.f k l0 = some r) :
  Calls Tryz.prog 24 #[.slice A0 l0.length c0] w fun e w' => ∃ v0_ : Value, e = .returned (v0_) ∧ Kd.N k83 83 w' w.heap.size (fun k_ => (P0_ k_ ∨ w.heap.size ≤ k_)) v0_ r ∧ Below w.heap.size w w' := by
 have hu46 := Tryz.underlying46
 have hu83 := Tryz.underlying83
 have HO0 := aM (show Kd.V k50 50 w w.heap.size (fun k_ => (P0_ k_ ∨ w.heap.size ≤ k_)) (.slice A0 l0.length c0) l0 from Kd.V_mono hs0 (fun k_ hk => .inl hk))
 have HB := aM (Below.refl w.heap.size w)
 have H : (hornbooklaw05_ents.l0 k l0 ([] : List (S83)) 0) = some r := h
 clear h
 have H' := aM H
 clear H
 go_enter Tryz.func24, Tryz.ntmps24
 go_wp2
 go_loopg [3, 4] k (fun kq v3 v4 w' => ∃ (x3_1 : List (S83)) (x4_1 : Int), v4 = .int .i64 x4_1 ∧ Aside0 (hornbooklaw05_ents.l0 kq l0 x3_1 x4_1 = some r) ∧ Aside0 (kq ≤ k) ∧ Aside0 (Kd.V k50 50 w' w.heap.size (fun k_ => (P0_ k_ ∨ w.heap.size ≤ k_) ∧ some k_ ≠ (v3 : Value).ownBlock) (.slice A0 l0.length c0) l0) ∧ Aside0 (Kd.N k83 83 w' w.heap.size (fun k_ => (P0_ k_ ∨ w.heap.size ≤ k_)) v3 x3_1) ∧ Aside0 (Below w.heap.size w w'))
 case atStart => exact ⟨(([] : List (S83))), (0), vQ, H', ⟨Nat.le_refl _⟩, ⟨by (with_reducible repeat (first | apply Kd.V_alloc | apply Kd.V_drewN | apply Kd.V_drew)); exact Kd.V_mono HO0.out (fun _ hk => ⟨hk, (by simp [Value.ownBlock])⟩)⟩, ⟨by first | exact Kd.R_nil _ _ _ _ _ | exact Kd.N_nil _ _ _ _ _ | exact Kd.V_nil _ _ _ _ _ | exact Kd.Q_nil _ _ _ _ _ | exact Kd.S_nil _ _ _ _ _⟩, ⟨bQ⟩⟩
 case round =>
  clear H'
  obtain ⟨x3_1, x4_1, rfl, HA, HK1, HO_0, HO_3, HB⟩ := hrel
  cases gk with
  | zero => exact absurd HA.out (by simp [hornbooklaw05_ents.l0])
  | succ k1 =>
   have H := HA.out
   clear HA
   simp only [hornbooklaw05_ents.l0] at H
   refine iD H ?_ ?_<;>clear H<;>intro H c2b0
   rotate_left
   ·obtain rfl := Option.some.inj H
    go_wp2
    go_ret
    exact ⟨_, eQ, by (with_reducible repeat (first | apply Kd.N_alloc | apply Kd.N_drewN | apply Kd.N_drew)); exact HO_3.out, bQ⟩
   refine iD H ?_ ?_<;>clear H<;>intro H c3b0
   rotate_left
   ·exact absurd H (by simp)
   refine iNc H ?_ ?_<;>clear H<;>intro H c4
   rotate_left
   ·exact absurd H (by simp)
   have LMc4 := aM c4
   clear c4
   obtain ⟨y254, hy254⟩ : ∃ y_ : List (S83), y_ = (x3_1 ++ [(⟨(⟨(rd_T50 l0 x4_1).f0.f0, (rd_T50 l0 x4_1).f0.f1⟩ : S46), (⟨(rd_T50 l0 x4_1).f1.f0, (rd_T50 l0 x4_1).f1.f1⟩ : S46), (rd_T50 l0 x4_1).f2, (rd_T50 l0 x4_1).f3, (rd_T50 l0 x4_1).f4⟩ : S83)]) := ⟨_, rfl⟩
   replace H : (hornbooklaw05_ents.l0 k1 l0 y254 (wrap64 (x4_1 + 1))) = some r := by first | (rw [hy254]; with_reducible exact H) | (have H2_ := (Option.bind_some _ _).symm.trans H; rw [hy254]; with_reducible exact H2_) | (have H2_ := (Option.bind_some _ _).symm.trans H; with_reducible exact H2_) | with_reducible exact H | (rw [hy254]; exact H) | exact H
   have Ny254 := aM hy254
   clear hy254
   have H' := aM H
   clear H
   try go_wp2
   have n0_ := aM (Kd.V_drew HO_0.out)
   have n1_ := aM (Kd.N_drew HO_3.out)
   have n2_ := aM (below_drew1 HB.out)
   clear HO_0
   clear HO_3
   clear HB
   have HO_0 := n0_
   have HO_3 := n1_
   have HB := n2_
   clear n0_ n1_ n2_
   have p249 : 0 ≤ (x4_1 : Int) := of_decide_eq_true hQ
   have q249 : x4_1 < (l0.length : Int) := of_decide_eq_true hQ
   obtain ⟨ad249, A249_5, c249_5, A249_6, c249_6, e249, hx249_0, hx249_1, hx249_2, hx249_3, hx249_4, hx249_5, hx249_6, hl249_5, hi249_5, hl249_6, hi249_6⟩ := at_T50 (Kd.V_reads' HO_0.out).2.2 x4_1 p249 q249
   cases e249
   obtain ⟨ce249, hce249, hMe249, hcc249⟩ := Kd.V_get HO_0.out z50 x4_1 p249 (by first | exact q249 | exact of_decide_eq_true hQ | (have e_ := (Kd.V_reads' HO_0.out).1; omega))
   obtain ⟨ua249_5, uc249_5, ua249_6, uc249_6, rfl, ul249_5, ge249_5, ul249_6, ge249_6⟩ := k50_openF hMe249
   have hv249_5 := hcc249 5 _ rfl
   rw [add_field _ _ 5 (by omega)] at hv249_5
   replace hv249_5 := Option.some.inj (hv249_5.symm.trans hx249_5)
   injection hv249_5 with hva_ hvn_ hvc_
   rw [hva_] at ge249_5
   rw [hvc_] at ul249_5
   have HL249_5 := aM (show Kd.V (Kd.int .i64) 3 _ w.heap.size _ _ ((rd_T50 l0 x4_1).f3) from Kd.V_mk ul249_5 ge249_5)
   clear hva_ hvn_ hvc_ ge249_5 ul249_5
   have hv249_6 := hcc249 6 _ rfl
   rw [add_field _ _ 6 (by omega)] at hv249_6
   replace hv249_6 := Option.some.inj (hv249_6.symm.trans hx249_6)
   injection hv249_6 with hva_ hvn_ hvc_
   rw [hva_] at ge249_6
   rw [hvc_] at ul249_6
   have HL249_6 := aM (show Kd.V (Kd.slice 3 (Kd.int .i64)) 47 _ w.heap.size _ _ ((rd_T50 l0 x4_1).f4) from Kd.V_mk ul249_6 ge249_6)
   clear hva_ hvn_ hvc_ ge249_6 ul249_6
   clear hcc249 hce249
   have HR249_5 := aM hi249_5
   have HC249_5 := aM hl249_5
   clear hi249_5 hl249_5
   have HR249_6 := aM hi249_6
   have HC249_6 := aM hl249_6
   clear hi249_6 hl249_6
   replace p249 := eq_true p249
   replace q249 := eq_true q249
   have p250 : 0 ≤ (x4_1 : Int) := of_decide_eq_true hQ
   have q250 : x4_1 < (l0.length : Int) := of_decide_eq_true hQ
   obtain ⟨ad250, A250_5, c250_5, A250_6, c250_6, e250, hx250_0, hx250_1, hx250_2, hx250_3, hx250_4, hx250_5, hx250_6, hl250_5, hi250_5, hl250_6, hi250_6⟩ := at_T50 (Kd.V_reads' HO_0.out).2.2 x4_1 p250 q250
   obtain rfl : ad249 = ad250 := (by injection e250)
   obtain ⟨ce250, hce250, hMe250, hcc250⟩ := Kd.V_get HO_0.out z50 x4_1 p250 (by first | exact q250 | exact of_decide_eq_true hQ | (have e_ := (Kd.V_reads' HO_0.out).1; omega))
   obtain ⟨ua250_5, uc250_5, ua250_6, uc250_6, rfl, ul250_5, ge250_5, ul250_6, ge250_6⟩ := k50_openF hMe250
   have hv250_5 := hcc250 5 _ rfl
   rw [add_field _ _ 5 (by omega)] at hv250_5
   replace hv250_5 := Option.some.inj (hv250_5.symm.trans hx250_5)
   injection hv250_5 with hva_ hvn_ hvc_
   rw [hva_] at ge250_5
   rw [hvc_] at ul250_5
   have HL250_5 := aM (show Kd.V (Kd.int .i64) 3 _ w.heap.size _ _ ((rd_T50 l0 x4_1).f3) from Kd.V_mk ul250_5 ge250_5)
   clear hva_ hvn_ hvc_ ge250_5 ul250_5
   have hv250_6 := hcc250 6 _ rfl
   rw [add_field _ _ 6 (by omega)] at hv250_6
   replace hv250_6 := Option.some.inj (hv250_6.symm.trans hx250_6)
   injection hv250_6 with hva_ hvn_ hvc_
   rw [hva_] at ge250_6
   rw [hvc_] at ul250_6
   have HL250_6 := aM (show Kd.V (Kd.slice 3 (Kd.int .i64)) 47 _ w.heap.size _ _ ((rd_T50 l0 x4_1).f4) from Kd.V_mk ul250_6 ge250_6)
   clear hva_ hvn_ hvc_ ge250_6 ul250_6
   clear hcc250 hce250
   have HR250_5 := aM hi250_5
   have HC250_5 := aM hl250_5
   clear hi250_5 hl250_5
   have HR250_6 := aM hi250_6
   have HC250_6 := aM hl250_6
   clear hi250_6 hl250_6
   replace p250 := eq_true p250
   replace q250 := eq_true q250
   have ea_ := Option.some.inj (hx249_5.symm.trans hx250_5)
   injection ea_ with ea_ en_ ec_
   subst ea_
   subst ec_
   clear en_
   have ea_ := Option.some.inj (hx249_6.symm.trans hx250_6)
   injection ea_ with ea_ en_ ec_
   subst ea_
   subst ec_
   clear en_
   have p251 : 0 ≤ (x4_1 : Int) := of_decide_eq_true hQ
   have q251 : x4_1 < (l0.length : Int) := of_decide_eq_true hQ
   obtain ⟨ad251, A251_5, c251_5, A251_6, c251_6, e251, hx251_0, hx251_1, hx251_2, hx251_3, hx251_4, hx251_5, hx251_6, hl251_5, hi251_5, hl251_6, hi251_6⟩ := at_T50 (Kd.V_reads' HO_0.out).2.2 x4_1 p251 q251
   obtain rfl : ad249 = ad251 := (by injection e251)
   obtain ⟨ce251, hce251, hMe251, hcc251⟩ := Kd.V_get HO_0.out z50 x4_1 p251 (by first | exact q251 | exact of_decide_eq_true hQ | (have e_ := (Kd.V_reads' HO_0.out).1; omega))
   obtain ⟨ua251_5, uc251_5, ua251_6, uc251_6, rfl, ul251_5, ge251_5, ul251_6, ge251_6⟩ := k50_openF hMe251
   have hv251_5 := hcc251 5 _ rfl
   rw [add_field _ _ 5 (by omega)] at hv251_5
   replace hv251_5 := Option.some.inj (hv251_5.symm.trans hx251_5)
   injection hv251_5 with hva_ hvn_ hvc_
   rw [hva_] at ge251_5
   rw [hvc_] at ul251_5
   have HL251_5 := aM (show Kd.V (Kd.int .i64) 3 _ w.heap.size _ _ ((rd_T50 l0 x4_1).f3) from Kd.V_mk ul251_5 ge251_5)
   clear hva_ hvn_ hvc_ ge251_5 ul251_5
   have hv251_6 := hcc251 6 _ rfl
   rw [add_field _ _ 6 (by omega)] at hv251_6
   replace hv251_6 := Option.some.inj (hv251_6.symm.trans hx251_6)
   injection hv251_6 with hva_ hvn_ hvc_
   rw [hva_] at ge251_6
   rw [hvc_] at ul251_6
   have HL251_6 := aM (show Kd.V (Kd.slice 3 (Kd.int .i64)) 47 _ w.heap.size _ _ ((rd_T50 l0 x4_1).f4) from Kd.V_mk ul251_6 ge251_6)
   clear hva_ hvn_ hvc_ ge251_6 ul251_6
   clear hcc251 hce251
   have HR251_5 := aM hi251_5
   have HC251_5 := aM hl251_5
   clear hi251_5 hl251_5
   have HR251_6 := aM hi251_6
   have HC251_6 := aM hl251_6
   clear hi251_6 hl251_6
   replace p251 := eq_true p251
   replace q251 := eq_true q251
   have ea_ := Option.some.inj (hx249_5.symm.trans hx251_5)
   injection ea_ with ea_ en_ ec_
   subst ea_
   subst ec_
   clear en_
   have ea_ := Option.some.inj (hx249_6.symm.trans hx251_6)
   injection ea_ with ea_ en_ ec_
   subst ea_
   subst ec_
   clear en_
   have p252 : 0 ≤ (x4_1 : Int) := of_decide_eq_true hQ
   have q252 : x4_1 < (l0.length : Int) := of_decide_eq_true hQ
   obtain ⟨ad252, A252_5, c252_5, A252_6, c252_6, e252, hx252_0, hx252_1, hx252_2, hx252_3, hx252_4, hx252_5, hx252_6, hl252_5, hi252_5, hl252_6, hi252_6⟩ := at_T50 (Kd.V_reads' HO_0.out).2.2 x4_1 p252 q252
   obtain rfl : ad249 = ad252 := (by injection e252)
   obtain ⟨ce252, hce252, hMe252, hcc252⟩ := Kd.V_get HO_0.out z50 x4_1 p252 (by first | exact q252 | exact of_decide_eq_true hQ | (have e_ := (Kd.V_reads' HO_0.out).1; omega))
   obtain ⟨ua252_5, uc252_5, ua252_6, uc252_6, rfl, ul252_5, ge252_5, ul252_6, ge252_6⟩ := k50_openF hMe252
   have hv252_5 := hcc252 5 _ rfl
   rw [add_field _ _ 5 (by omega)] at hv252_5
   replace hv252_5 := Option.some.inj (hv252_5.symm.trans hx252_5)
   injection hv252_5 with hva_ hvn_ hvc_
   rw [hva_] at ge252_5
   rw [hvc_] at ul252_5
   have HL252_5 := aM (show Kd.V (Kd.int .i64) 3 _ w.heap.size _ _ ((rd_T50 l0 x4_1).f3) from Kd.V_mk ul252_5 ge252_5)
   clear hva_ hvn_ hvc_ ge252_5 ul252_5
   have hv252_6 := hcc252 6 _ rfl
   rw [add_field _ _ 6 (by omega)] at hv252_6
   replace hv252_6 := Option.some.inj (hv252_6.symm.trans hx252_6)
   injection hv252_6 with hva_ hvn_ hvc_
   rw [hva_] at ge252_6
   rw [hvc_] at ul252_6
   have HL252_6 := aM (show Kd.V (Kd.slice 3 (Kd.int .i64)) 47 _ w.heap.size _ _ ((rd_T50 l0 x4_1).f4) from Kd.V_mk ul252_6 ge252_6)
   clear hva_ hvn_ hvc_ ge252_6 ul252_6
   clear hcc252 hce252
   have HR252_5 := aM hi252_5
   have HC252_5 := aM hl252_5
   clear hi252_5 hl252_5
   have HR252_6 := aM hi252_6
   have HC252_6 := aM hl252_6
   clear hi252_6 hl252_6
   replace p252 := eq_true p252
   replace q252 := eq_true q252
   have ea_ := Option.some.inj (hx249_5.symm.trans hx252_5)
   injection ea_ with ea_ en_ ec_
   subst ea_
   subst ec_
   clear en_
   have ea_ := Option.some.inj (hx249_6.symm.trans hx252_6)
   injection ea_ with ea_ en_ ec_
   subst ea_
   subst ec_
   clear en_
   have p253 : 0 ≤ (x4_1 : Int) := of_decide_eq_true hQ
   have q253 : x4_1 < (l0.length : Int) := of_decide_eq_true hQ
   obtain ⟨ad253, A253_5, c253_5, A253_6, c253_6, e253, hx253_0, hx253_1, hx253_2, hx253_3, hx253_4, hx253_5, hx253_6, hl253_5, hi253_5, hl253_6, hi253_6⟩ := at_T50 (Kd.V_reads' HO_0.out).2.2 x4_1 p253 q253
   obtain rfl : ad249 = ad253 := (by injection e253)
   obtain ⟨ce253, hce253, hMe253, hcc253⟩ := Kd.V_get HO_0.out z50 x4_1 p253 (by first | exact q253 | exact of_decide_eq_true hQ | (have e_ := (Kd.V_reads' HO_0.out).1; omega))
   obtain ⟨ua253_5, uc253_5, ua253_6, uc253_6, rfl, ul253_5, ge253_5, ul253_6, ge253_6⟩ := k50_openF hMe253
   have hv253_5 := hcc253 5 _ rfl
   rw [add_field _ _ 5 (by omega)] at hv253_5
   replace hv253_5 := Option.some.inj (hv253_5.symm.trans hx253_5)
   injection hv253_5 with hva_ hvn_ hvc_
   rw [hva_] at ge253_5
   rw [hvc_] at ul253_5
   have HL253_5 := aM (show Kd.V (Kd.int .i64) 3 _ w.heap.size _ _ ((rd_T50 l0 x4_1).f3) from Kd.V_mk ul253_5 ge253_5)
   clear hva_ hvn_ hvc_ ge253_5 ul253_5
   have hv253_6 := hcc253 6 _ rfl
   rw [add_field _ _ 6 (by omega)] at hv253_6
   replace hv253_6 := Option.some.inj (hv253_6.symm.trans hx253_6)
   injection hv253_6 with hva_ hvn_ hvc_
   rw [hva_] at ge253_6
   rw [hvc_] at ul253_6
   have HL253_6 := aM (show Kd.V (Kd.slice 3 (Kd.int .i64)) 47 _ w.heap.size _ _ ((rd_T50 l0 x4_1).f4) from Kd.V_mk ul253_6 ge253_6)
   clear hva_ hvn_ hvc_ ge253_6 ul253_6
   clear hcc253 hce253
   have HR253_5 := aM hi253_5
   have HC253_5 := aM hl253_5
   clear hi253_5 hl253_5
   have HR253_6 := aM hi253_6
   have HC253_6 := aM hl253_6
   clear hi253_6 hl253_6
   replace p253 := eq_true p253
   replace q253 := eq_true q253
   have ea_ := Option.some.inj (hx249_5.symm.trans hx253_5)
   injection ea_ with ea_ en_ ec_
   subst ea_
   subst ec_
   clear en_
   have ea_ := Option.some.inj (hx249_6.symm.trans hx253_6)
   injection ea_ with ea_ en_ ec_
   subst ea_
   subst ec_
   clear en_
   refine start_ (n := 30) (S := fun w' => w'.cell? (ad249.add ((x4_1).toNat * 7)) = some (.int .i64 ((rd_T50 l0 x4_1).f0.f0)) ∧ w'.cell? ⟨(ad249.add ((x4_1).toNat * 7)).block, (ad249.add ((x4_1).toNat * 7)).off + 1, none⟩ = some (.int .i64 ((rd_T50 l0 x4_1).f0.f1)) ∧ w'.cell? ⟨(ad249.add ((x4_1).toNat * 7)).block, (ad249.add ((x4_1).toNat * 7)).off + 2, none⟩ = some (.int .i64 ((rd_T50 l0 x4_1).f1.f0)) ∧ w'.cell? ⟨(ad249.add ((x4_1).toNat * 7)).block, (ad249.add ((x4_1).toNat * 7)).off + 3, none⟩ = some (.int .i64 ((rd_T50 l0 x4_1).f1.f1)) ∧ w'.cell? ⟨(ad249.add ((x4_1).toNat * 7)).block, (ad249.add ((x4_1).toNat * 7)).off + 4, none⟩ = some (.int .i64 ((rd_T50 l0 x4_1).f2)) ∧ w'.cell? ⟨(ad249.add ((x4_1).toNat * 7)).block, (ad249.add ((x4_1).toNat * 7)).off + 5, none⟩ = some (.slice A249_5 ((rd_T50 l0 x4_1).f3).length c249_5) ∧ w'.cell? ⟨(ad249.add ((x4_1).toNat * 7)).block, (ad249.add ((x4_1).toNat * 7)).off + 6, none⟩ = some (.slice A249_6 ((rd_T50 l0 x4_1).f4).length c249_6) ∧ w'.cell? (ad249.add ((x4_1).toNat * 7)) = some (.int .i64 ((rd_T50 l0 x4_1).f0.f0)) ∧ w'.cell? ⟨(ad249.add ((x4_1).toNat * 7)).block, (ad249.add ((x4_1).toNat * 7)).off + 1, none⟩ = some (.int .i64 ((rd_T50 l0 x4_1).f0.f1)) ∧ w'.cell? ⟨(ad249.add ((x4_1).toNat * 7)).block, (ad249.add ((x4_1).toNat * 7)).off + 2, none⟩ = some (.int .i64 ((rd_T50 l0 x4_1).f1.f0)) ∧ w'.cell? ⟨(ad249.add ((x4_1).toNat * 7)).block, (ad249.add ((x4_1).toNat * 7)).off + 3, none⟩ = some (.int .i64 ((rd_T50 l0 x4_1).f1.f1)) ∧ w'.cell? ⟨(ad249.add ((x4_1).toNat * 7)).block, (ad249.add ((x4_1).toNat * 7)).off + 4, none⟩ = some (.int .i64 ((rd_T50 l0 x4_1).f2)) ∧ w'.cell? ⟨(ad249.add ((x4_1).toNat * 7)).block, (ad249.add ((x4_1).toNat * 7)).off + 5, none⟩ = some (.slice A249_5 ((rd_T50 l0 x4_1).f3).length c249_5) ∧ w'.cell? ⟨(ad249.add ((x4_1).toNat * 7)).block, (ad249.add ((x4_1).toNat * 7)).off + 6, none⟩ = some (.slice A249_6 ((rd_T50 l0 x4_1).f4).length c249_6) ∧ w'.cell? (ad249.add ((x4_1).toNat * 7)) = some (.int .i64 ((rd_T50 l0 x4_1).f0.f0)) ∧ w'.cell? ⟨(ad249.add ((x4_1).toNat * 7)).block, (ad249.add ((x4_1).toNat * 7)).off + 1, none⟩ = some (.int .i64 ((rd_T50 l0 x4_1).f0.f1)) ∧ w'.cell? ⟨(ad249.add ((x4_1).toNat * 7)).block, (ad249.add ((x4_1).toNat * 7)).off + 2, none⟩ = some (.int .i64 ((rd_T50 l0 x4_1).f1.f0)) ∧ w'.cell? ⟨(ad249.add ((x4_1).toNat * 7)).block, (ad249.add ((x4_1).toNat * 7)).off + 3, none⟩ = some (.int .i64 ((rd_T50 l0 x4_1).f1.f1)) ∧ w'.cell? ⟨(ad249.add ((x4_1).toNat * 7)).block, (ad249.add ((x4_1).toNat * 7)).off + 4, none⟩ = some (.int .i64 ((rd_T50 l0 x4_1).f2)) ∧ w'.cell? ⟨(ad249.add ((x4_1).toNat * 7)).block, (ad249.add ((x4_1).toNat * 7)).off + 5, none⟩ = some (.slice A249_5 ((rd_T50 l0 x4_1).f3).length c249_5) ∧ w'.cell? ⟨(ad249.add ((x4_1).toNat * 7)).block, (ad249.add ((x4_1).toNat * 7)).off + 6, none⟩ = some (.slice A249_6 ((rd_T50 l0 x4_1).f4).length c249_6) ∧ w'.cell? (ad249.add ((x4_1).toNat * 7)) = some (.int .i64 ((rd_T50 l0 x4_1).f0.f0)) ∧ w'.cell? ⟨(ad249.add ((x4_1).toNat * 7)).block, (ad249.add ((x4_1).toNat * 7)).off + 1, none⟩ = some (.int .i64 ((rd_T50 l0 x4_1).f0.f1)) ∧ w'.cell? ⟨(ad249.add ((x4_1).toNat * 7)).block, (ad249.add ((x4_1).toNat * 7)).off + 2, none⟩ = some (.int .i64 ((rd_T50 l0 x4_1).f1.f0)) ∧ w'.cell? ⟨(ad249.add ((x4_1).toNat * 7)).block, (ad249.add ((x4_1).toNat * 7)).off + 3, none⟩ = some (.int .i64 ((rd_T50 l0 x4_1).f1.f1)) ∧ w'.cell? ⟨(ad249.add ((x4_1).toNat * 7)).block, (ad249.add ((x4_1).toNat * 7)).off + 4, none⟩ = some (.int .i64 ((rd_T50 l0 x4_1).f2)) ∧ w'.cell? ⟨(ad249.add ((x4_1).toNat * 7)).block, (ad249.add ((x4_1).toNat * 7)).off + 5, none⟩ = some (.slice A249_5 ((rd_T50 l0 x4_1).f3).length c249_5) ∧ w'.cell? ⟨(ad249.add ((x4_1).toNat * 7)).block, (ad249.add ((x4_1).toNat * 7)).off + 6, none⟩ = some (.slice A249_6 ((rd_T50 l0 x4_1).f4).length c249_6) ∧ w'.cell? (ad249.add ((x4_1).toNat * 7)) = some (.int .i64 ((rd_T50 l0 x4_1).f0.f0)) ∧ w'.cell? ⟨(ad249.add ((x4_1).toNat * 7)).block, (ad249.add ((x4_1).toNat * 7)).off + 1, none⟩ = some (.int .i64 ((rd_T50 l0 x4_1).f0.f1)) ∧ w'.cell? ⟨(ad249.add ((x4_1).toNat * 7)).block, (ad249.add ((x4_1).toNat * 7)).off + 2, none⟩ = some (.int .i64 ((rd_T50 l0 x4_1).f1.f0)) ∧ w'.cell? ⟨(ad249.add ((x4_1).toNat * 7)).block, (ad249.add ((x4_1).toNat * 7)).off + 3, none⟩ = some (.int .i64 ((rd_T50 l0 x4_1).f1.f1)) ∧ w'.cell? ⟨(ad249.add ((x4_1).toNat * 7)).block, (ad249.add ((x4_1).toNat * 7)).off + 4, none⟩ = some (.int .i64 ((rd_T50 l0 x4_1).f2)) ∧ w'.cell? ⟨(ad249.add ((x4_1).toNat * 7)).block, (ad249.add ((x4_1).toNat * 7)).off + 5, none⟩ = some (.slice A249_5 ((rd_T50 l0 x4_1).f3).length c249_5) ∧ w'.cell? ⟨(ad249.add ((x4_1).toNat * 7)).block, (ad249.add ((x4_1).toNat * 7)).off + 6, none⟩ = some (.slice A249_6 ((rd_T50 l0 x4_1).f4).length c249_6)) (ds := [27, 28]) #[false, false, false, false, false, false, false, false, false, false, false, false, false, false, false, false, false, false, false, false, false, false, false, false, false, false, false, false, false, false] (by kernel_rfl) rfl rfl ⟨hx249_0, hx249_1, hx249_2, hx249_3, hx249_4, hx249_5, hx249_6, hx250_0, hx250_1, hx250_2, hx250_3, hx250_4, hx250_5, hx250_6, hx251_0, hx251_1, hx251_2, hx251_3, hx251_4, hx251_5, hx251_6, hx252_0, hx252_1, hx252_2, hx252_3, hx252_4, hx252_5, hx252_6, hx253_0, hx253_1, hx253_2, hx253_3, hx253_4, hx253_5, hx253_6⟩ (fun hHeld => ?_); refine with_tabW hornbooklaw05_ents.tab5 hornbooklaw05_ents.bits5 (fun HT_ HW_ => ?_)
   generalize wr.drew = w5 at HO_0 HO_3 HB HL249_5 HL249_6 HL250_5 HL250_6 HL251_5 HL251_6 HL252_5 HL252_6 HL253_5 HL253_6 HR249_5 HR249_6 HR250_5 HR250_6 HR251_5 HR251_6 HR252_5 HR252_6 HR253_5 HR253_6 hx249_0 hx249_1 hx249_2 hx249_3 hx249_4 hx249_5 hx249_6 hx250_0 hx250_1 hx250_2 hx250_3 hx250_4 hx250_5 hx250_6 hx251_0 hx251_1 hx251_2 hx251_3 hx251_4 hx251_5 hx251_6 hx252_0 hx252_1 hx252_2 hx252_3 hx252_4 hx252_5 hx252_6 hx253_0 hx253_1 hx253_2 hx253_3 hx253_4 hx253_5 hx253_6 hHeld ⊢
   refine pure_ (i := 0) (N := some 11) (v := ?_) (a' := ?_) #[true, false, false, false, false, false, false, false, false, false, false, false, false, false, false, false, false, false, false, false, false, false, false, false, false, false, false, false, false, false] rfl rfl (any_of HT_.out (by kernel_rfl)) (fun _ _ _ h => h) (Or.inl ⟨by rfl, ?_⟩) ?_ ?_
   rotate_left
   ·intro w'
    go_simp
    with_reducible rfl
   rotate_left
   ·simp only [Act.put, List.setIfInBounds_toArray, List.set_cons_zero, List.set_cons_succ, i64_w, i32_w]
    rfl
   refine pure_ (i := 1) (N := some 12) (v := ?_) (a' := ?_) #[true, true, false, false, false, false, false, false, false, false, false, false, false, false, false, false, false, false, false, false, false, false, false, false, false, false, false, false, false, false] rfl rfl (any_of HT_.out (by kernel_rfl)) (fun _ _ _ h => h) (Or.inl ⟨by rfl, ?_⟩) ?_ ?_
   rotate_left
   ·intro w'
    go_simp
    with_reducible rfl
   rotate_left
   ·simp only [Act.put, List.setIfInBounds_toArray, List.set_cons_zero, List.set_cons_succ, i64_w, i32_w]
    rfl
   refine pure_ (i := 2) (N := some 13) (v := ?_) (a' := ?_) #[true, true, true, false, false, false, false, false, false, false, false, false, false, false, false, false, false, false, false, false, false, false, false, false, false, false, false, false, false, false] rfl rfl (any_of HT_.out (by kernel_rfl)) (fun _ _ _ h => h) (Or.inl ⟨by rfl, ?_⟩) ?_ ?_
   rotate_left
   ·intro w'
    go_simp
    with_reducible rfl
   rotate_left
   ·simp only [Act.put, List.setIfInBounds_toArray, List.set_cons_zero, List.set_cons_succ, i64_w, i32_w]
    rfl
   refine pure_ (i := 3) (N := some 14) (v := ?_) (a' := ?_) #[true, true, true, true, false, false, false, false, false, false, false, false, false, false, false, false, false, false, false, false, false, false, false, false, false, false, false, false, false, false] rfl rfl (any_of HT_.out (by kernel_rfl)) (fun _ _ _ h => h) (Or.inl ⟨by rfl, ?_⟩) ?_ ?_
   rotate_left
   ·intro w'
    go_simp
    with_reducible rfl
   rotate_left
   ·simp only [Act.put, List.setIfInBounds_toArray, List.set_cons_zero, List.set_cons_succ, i64_w, i32_w]
    rfl
   refine pure_ (i := 4) (N := some 15) (v := ?_) (a' := ?_) #[true, true, true, true, true, false, false, false, false, false, false, false, false, false, false, false, false, false, false, false, false, false, false, false, false, false, false, false, false, false] rfl rfl (any_of HT_.out (by kernel_rfl)) (fun _ _ _ h => h) (Or.inl ⟨by rfl, ?_⟩) ?_ ?_
   rotate_left
   ·intro w'
    go_simp
    with_reducible rfl
   rotate_left
   ·simp only [Act.put, List.setIfInBounds_toArray, List.set_cons_zero, List.set_cons_succ, i64_w, i32_w]
    rfl
   refine pure_ (i := 6) (N := some 17) (v := ?_) (a' := ?_) #[true, true, true, true, true, false, true, false, false, false, false, false, false, false, false, false, false, false, false, false, false, false, false, false, false, false, false, false, false, false] rfl rfl (any_of HT_.out (by kernel_rfl)) (fun _ _ _ h => h) (Or.inl ⟨by rfl, ?_⟩) ?_ ?_
   rotate_left
   ·intro w'
    go_simp
    with_reducible rfl
   rotate_left
   ·simp only [Act.put, List.setIfInBounds_toArray, List.set_cons_zero, List.set_cons_succ, i64_w, i32_w]
    rfl
   refine pure_ (i := 7) (N := some 18) (v := ?_) (a' := ?_) #[true, true, true, true, true, false, true, true, false, false, false, false, false, false, false, false, false, false, false, false, false, false, false, false, false, false, false, false, false, false] rfl rfl (any_of HT_.out (by kernel_rfl)) (fun _ _ _ h => h) (Or.inl ⟨by rfl, ?_⟩) ?_ ?_
   rotate_left
   ·intro w'
    go_simp
    with_reducible rfl
   rotate_left
   ·simp only [Act.put, List.setIfInBounds_toArray, List.set_cons_zero, List.set_cons_succ, i64_w, i32_w]
    rfl
   refine pure_ (i := 8) (N := some 19) (v := ?_) (a' := ?_) #[true, true, true, true, true, false, true, true, true, false, false, false, false, false, false, false, false, false, false, false, false, false, false, false, false, false, false, false, false, false] rfl rfl (any_of HT_.out (by kernel_rfl)) (fun _ _ _ h => h) (Or.inl ⟨by rfl, ?_⟩) ?_ ?_
   rotate_left
   ·intro w'
    go_simp
    with_reducible rfl
   rotate_left
   ·simp only [Act.put, List.setIfInBounds_toArray, List.set_cons_zero, List.set_cons_succ, i64_w, i32_w]
    rfl
   refine pure_ (i := 9) (N := some 20) (v := ?_) (a' := ?_) #[true, true, true, true, true, false, true, true, true, true, false, false, false, false, false, false, false, false, false, false, false, false, false, false, false, false, false, false, false, false] rfl rfl (any_of HT_.out (by kernel_rfl)) (fun _ _ _ h => h) (Or.inl ⟨by rfl, ?_⟩) ?_ ?_
   rotate_left
   ·intro w'
    go_simp
    with_reducible rfl
   rotate_left
   ·simp only [Act.put, List.setIfInBounds_toArray, List.set_cons_zero, List.set_cons_succ, i64_w, i32_w]
    rfl
   refine pure_ (i := 11) (N := some 22) (v := ?_) (a' := ?_) #[true, true, true, true, true, false, true, true, true, true, false, true, false, false, false, false, false, false, false, false, false, false, false, false, false, false, false, false, false, false] rfl rfl (any_of HT_.out (by kernel_rfl)) (fun _ _ _ h => h) (Or.inl ⟨by rfl, ?_⟩) ?_ ?_
   rotate_left
   ·intro w'
    go_simp
    with_reducible rfl
   rotate_left
   ·simp only [Act.put, List.setIfInBounds_toArray, List.set_cons_zero, List.set_cons_succ, i64_w, i32_w]
    rfl
   refine pure_ (i := 12) (N := some 23) (v := ?_) (a' := ?_) #[true, true, true, true, true, false, true, true, true, true, false, true, true, false, false, false, false, false, false, false, false, false, false, false, false, false, false, false, false, false] rfl rfl (any_of HT_.out (by kernel_rfl)) (fun _ _ _ h => h) (Or.inl ⟨by rfl, ?_⟩) ?_ ?_
   rotate_left
   ·intro w'
    go_simp
    with_reducible rfl
   rotate_left
   ·simp only [Act.put, List.setIfInBounds_toArray, List.set_cons_zero, List.set_cons_succ, i64_w, i32_w]
    rfl
   refine pure_ (i := 13) (N := some 24) (v := ?_) (a' := ?_) #[true, true, true, true, true, false, true, true, true, true, false, true, true, true, false, false, false, false, false, false, false, false, false, false, false, false, false, false, false, false] rfl rfl (any_of HT_.out (by kernel_rfl)) (fun _ _ _ h => h) (Or.inl ⟨by rfl, ?_⟩) ?_ ?_
   rotate_left
   ·intro w'
    go_simp
    with_reducible rfl
   rotate_left
   ·simp only [Act.put, List.setIfInBounds_toArray, List.set_cons_zero, List.set_cons_succ, i64_w, i32_w]
    rfl
   refine pure_ (i := 14) (N := some 25) (v := ?_) (a' := ?_) #[true, true, true, true, true, false, true, true, true, true, false, true, true, true, true, false, false, false, false, false, false, false, false, false, false, false, false, false, false, false] rfl rfl (any_of HT_.out (by kernel_rfl)) (fun _ _ _ h => h) (Or.inl ⟨by rfl, ?_⟩) ?_ ?_
   rotate_left
   ·intro w'
    go_simp
    with_reducible rfl
   rotate_left
   ·simp only [Act.put, List.setIfInBounds_toArray, List.set_cons_zero, List.set_cons_succ, i64_w, i32_w]
    rfl
   refine pure_ (i := 16) (N := some 27) (v := ?_) (a' := ?_) #[true, true, true, true, true, false, true, true, true, true, false, true, true, true, true, false, true, false, false, false, false, false, false, false, false, false, false, false, false, false] rfl rfl (any_of HT_.out (by kernel_rfl)) (fun _ _ _ h => h) (Or.inl ⟨by rfl, ?_⟩) ?_ ?_
   rotate_left
   ·intro w'
    go_simp
    with_reducible rfl
   rotate_left
   ·simp only [Act.put, List.setIfInBounds_toArray, List.set_cons_zero, List.set_cons_succ, i64_w, i32_w]
    rfl
   refine pure_ (i := 17) (N := some 28) (v := ?_) (a' := ?_) #[true, true, true, true, true, false, true, true, true, true, false, true, true, true, true, false, true, true, false, false, false, false, false, false, false, false, false, false, false, false] rfl rfl (any_of HT_.out (by kernel_rfl)) (fun _ _ _ h => h) (Or.inl ⟨by rfl, ?_⟩) ?_ ?_
   rotate_left
   ·intro w'
    go_simp
    with_reducible rfl
   rotate_left
   ·simp only [Act.put, List.setIfInBounds_toArray, List.set_cons_zero, List.set_cons_succ, i64_w, i32_w]
    rfl
   refine pure_ (i := 18) (N := some 29) (v := ?_) (a' := ?_) #[true, true, true, true, true, false, true, true, true, true, false, true, true, true, true, false, true, true, true, false, false, false, false, false, false, false, false, false, false, false] rfl rfl (any_of HT_.out (by kernel_rfl)) (fun _ _ _ h => h) (Or.inl ⟨by rfl, ?_⟩) ?_ ?_
   rotate_left
   ·intro w'
    go_simp
    with_reducible rfl
   rotate_left
   ·simp only [Act.put, List.setIfInBounds_toArray, List.set_cons_zero, List.set_cons_succ, i64_w, i32_w]
    rfl
   refine pure_ (i := 19) (N := some 30) (v := ?_) (a' := ?_) #[true, true, true, true, true, false, true, true, true, true, false, true, true, true, true, false, true, true, true, true, false, false, false, false, false, false, false, false, false, false] rfl rfl (any_of HT_.out (by kernel_rfl)) (fun _ _ _ h => h) (Or.inl ⟨by rfl, ?_⟩) ?_ ?_
   rotate_left
   ·intro w'
    go_simp
    with_reducible rfl
   rotate_left
   ·simp only [Act.put, List.setIfInBounds_toArray, List.set_cons_zero, List.set_cons_succ, i64_w, i32_w]
    rfl
   refine pure_ (i := 21) (N := some 32) (v := ?_) (a' := ?_) #[true, true, true, true, true, false, true, true, true, true, false, true, true, true, true, false, true, true, true, true, false, true, false, false, false, false, false, false, false, false] rfl rfl (any_of HT_.out (by kernel_rfl)) (fun _ _ _ h => h) (Or.inl ⟨by rfl, ?_⟩) ?_ ?_
   rotate_left
   ·intro w'
    go_simp
    with_reducible rfl
   rotate_left
   ·simp only [Act.put, List.setIfInBounds_toArray, List.set_cons_zero, List.set_cons_succ, i64_w, i32_w]
    rfl
   refine pure_ (i := 22) (N := some 33) (v := ?_) (a' := ?_) #[true, true, true, true, true, false, true, true, true, true, false, true, true, true, true, false, true, true, true, true, false, true, true, false, false, false, false, false, false, false] rfl rfl (any_of HT_.out (by kernel_rfl)) (fun _ _ _ h => h) (Or.inl ⟨by rfl, ?_⟩) ?_ ?_
   rotate_left
   ·intro w'
    go_simp
    with_reducible rfl
   rotate_left
   ·simp only [Act.put, List.setIfInBounds_toArray, List.set_cons_zero, List.set_cons_succ, i64_w, i32_w]
    rfl
   refine pure_ (i := 23) (N := some 34) (v := ?_) (a' := ?_) #[true, true, true, true, true, false, true, true, true, true, false, true, true, true, true, false, true, true, true, true, false, true, true, true, false, false, false, false, false, false] rfl rfl (any_of HT_.out (by kernel_rfl)) (fun _ _ _ h => h) (Or.inl ⟨by rfl, ?_⟩) ?_ ?_
   rotate_left
   ·intro w'
    go_simp
    with_reducible rfl
   rotate_left
   ·simp only [Act.put, List.setIfInBounds_toArray, List.set_cons_zero, List.set_cons_succ, i64_w, i32_w]
    rfl
   refine pure_ (i := 24) (N := some 35) (v := ?_) (a' := ?_) #[true, true, true, true, true, false, true, true, true, true, false, true, true, true, true, false, true, true, true, true, false, true, true, true, true, false, false, false, false, false] rfl rfl (any_of HT_.out (by kernel_rfl)) (fun _ _ _ h => h) (Or.inl ⟨by rfl, ?_⟩) ?_ ?_
   rotate_left
   ·intro w'
    go_simp
    with_reducible rfl
   rotate_left
   ·simp only [Act.put, List.setIfInBounds_toArray, List.set_cons_zero, List.set_cons_succ, i64_w, i32_w]
    rfl
   refine take_ (i := 5) (N := some 16) (v := ?_) (a' := ?_) #[true, true, true, true, true, true, true, true, true, true, false, true, true, true, true, false, true, true, true, true, false, true, true, true, true, false, false, false, false, false] rfl rfl (take_ofW HT_.out HW_.out (by kernel_rfl)) (fun _ _ _ h => h) (Or.inl ⟨by rfl, ?_⟩) hHeld ?_ ?_
   rotate_left
   ·rintro w' ⟨s0, s1, s2, s3, s4, s5, s6, s7, s8, s9, s10, s11, s12, s13, s14, s15, s16, s17, s18, s19, s20, s21, s22, s23, s24, s25, s26, s27, s28, s29, s30, s31, s32, s33, s34⟩
    go_simp
    with_reducible rfl
   rotate_left
   ·simp only [Act.put, List.setIfInBounds_toArray, List.set_cons_zero, List.set_cons_succ, i64_w, i32_w]
    rfl
   refine take_ (i := 10) (N := some 21) (v := ?_) (a' := ?_) #[true, true, true, true, true, true, true, true, true, true, true, true, true, true, true, false, true, true, true, true, false, true, true, true, true, false, false, false, false, false] rfl rfl (take_ofW HT_.out HW_.out (by kernel_rfl)) (fun _ _ _ h => h) (Or.inl ⟨by rfl, ?_⟩) hHeld ?_ ?_
   rotate_left
   ·rintro w' ⟨s0, s1, s2, s3, s4, s5, s6, s7, s8, s9, s10, s11, s12, s13, s14, s15, s16, s17, s18, s19, s20, s21, s22, s23, s24, s25, s26, s27, s28, s29, s30, s31, s32, s33, s34⟩
    go_simp
    with_reducible rfl
   rotate_left
   ·simp only [Act.put, List.setIfInBounds_toArray, List.set_cons_zero, List.set_cons_succ, i64_w, i32_w]
    rfl
   refine take_ (i := 15) (N := some 26) (v := ?_) (a' := ?_) #[true, true, true, true, true, true, true, true, true, true, true, true, true, true, true, true, true, true, true, true, false, true, true, true, true, false, false, false, false, false] rfl rfl (take_ofW HT_.out HW_.out (by kernel_rfl)) (fun _ _ _ h => h) (Or.inl ⟨by rfl, ?_⟩) hHeld ?_ ?_
   rotate_left
   ·rintro w' ⟨s0, s1, s2, s3, s4, s5, s6, s7, s8, s9, s10, s11, s12, s13, s14, s15, s16, s17, s18, s19, s20, s21, s22, s23, s24, s25, s26, s27, s28, s29, s30, s31, s32, s33, s34⟩
    go_simp
    with_reducible rfl
   rotate_left
   ·simp only [Act.put, List.setIfInBounds_toArray, List.set_cons_zero, List.set_cons_succ, i64_w, i32_w]
    rfl
   refine take_ (i := 20) (N := some 31) (v := ?_) (a' := ?_) #[true, true, true, true, true, true, true, true, true, true, true, true, true, true, true, true, true, true, true, true, true, true, true, true, true, false, false, false, false, false] rfl rfl (take_ofW HT_.out HW_.out (by kernel_rfl)) (fun _ _ _ h => h) (Or.inl ⟨by rfl, ?_⟩) hHeld ?_ ?_
   rotate_left
   ·rintro w' ⟨s0, s1, s2, s3, s4, s5, s6, s7, s8, s9, s10, s11, s12, s13, s14, s15, s16, s17, s18, s19, s20, s21, s22, s23, s24, s25, s26, s27, s28, s29, s30, s31, s32, s33, s34⟩
    go_simp
    with_reducible rfl
   rotate_left
   ·simp only [Act.put, List.setIfInBounds_toArray, List.set_cons_zero, List.set_cons_succ, i64_w, i32_w]
    rfl
   refine take_ (i := 25) (N := some 36) (v := ?_) (a' := ?_) #[true, true, true, true, true, true, true, true, true, true, true, true, true, true, true, true, true, true, true, true, true, true, true, true, true, true, false, false, false, false] rfl rfl (take_ofW HT_.out HW_.out (by kernel_rfl)) (fun _ _ _ h => h) (Or.inl ⟨by rfl, ?_⟩) hHeld ?_ ?_
   rotate_left
   ·rintro w' ⟨s0, s1, s2, s3, s4, s5, s6, s7, s8, s9, s10, s11, s12, s13, s14, s15, s16, s17, s18, s19, s20, s21, s22, s23, s24, s25, s26, s27, s28, s29, s30, s31, s32, s33, s34⟩
    go_simp
    with_reducible rfl
   rotate_left
   ·simp only [Act.put, List.setIfInBounds_toArray, List.set_cons_zero, List.set_cons_succ, i64_w, i32_w]
    rfl
   refine pure_ (i := 26) (N := some 37) (v := ?_) (a' := ?_) #[true, true, true, true, true, true, true, true, true, true, true, true, true, true, true, true, true, true, true, true, true, true, true, true, true, true, true, false, false, false] rfl rfl (any_of HT_.out (by kernel_rfl)) (fun _ _ _ h => h) (Or.inl ⟨by rfl, ?_⟩) ?_ ?_
   rotate_left
   ·intro w'
    go_simp
    with_reducible rfl
   rotate_left
   ·simp only [Act.put, List.setIfInBounds_toArray, List.set_cons_zero, List.set_cons_succ, i64_w, i32_w]
    rfl
   refine last_ (i := 27) (N := some 38) #[true, true, true, true, true, true, true, true, true, true, true, true, true, true, true, true, true, true, true, true, true, true, true, true, true, true, true, true, false, false] rfl rfl (one_of HT_.out (by kernel_rfl)) (by decide) (fun K hK => ?_)
   refine value_ (w1 := ?_) (v := ?_) (by rfl) rfl ?_ ?_
   rotate_left 2
   ·go_simp
    constructor
    ·rfl
    ·rfl
   refine hK.out _ _ ?_
   clear hK K
   refine norm_ (a' := ?_) ?_ ?_
   rotate_left
   ·show Act.put _ (some 38) _ = _
    simp only [Act.put, List.setIfInBounds_toArray, List.set_cons_zero, List.set_cons_succ, i64_w, i32_w]
    rfl
   refine last_ (i := 28) (N := some 39) #[true, true, true, true, true, true, true, true, true, true, true, true, true, true, true, true, true, true, true, true, true, true, true, true, true, true, true, true, true, false] rfl rfl (one_of HT_.out (by kernel_rfl)) (by decide) (fun K hK => ?_)
   refine Kd.N_append_step k83 (w0 := w) w.heap.size (by rfl) (.tmp 11) (.tmp 38) 67 83 (.agg #[(.int .i64 0), (.int .i64 0), (.int .i64 0), (.int .i64 0), (.int .i64 0), (.slice none 0 0), (.slice none 0 0)]) 88 rfl Tryz.underlying67 info83 rfl (by decide) (by omega) u3 x3_1 (⟨(⟨(rd_T50 l0 x4_1).f0.f0, (rd_T50 l0 x4_1).f0.f1⟩ : S46), (⟨(rd_T50 l0 x4_1).f1.f0, (rd_T50 l0 x4_1).f1.f1⟩ : S46), (rd_T50 l0 x4_1).f2, (rd_T50 l0 x4_1).f3, (rd_T50 l0 x4_1).f4⟩ : S83) [.int .i64 ((rd_T50 l0 x4_1).f0.f0), .int .i64 ((rd_T50 l0 x4_1).f0.f1), .int .i64 ((rd_T50 l0 x4_1).f1.f0), .int .i64 ((rd_T50 l0 x4_1).f1.f1), .int .i64 ((rd_T50 l0 x4_1).f2), .slice A249_5 ((rd_T50 l0 x4_1).f3).length c249_5, .slice A249_6 ((rd_T50 l0 x4_1).f4).length c249_6] (fun k_ => (P0_ k_ ∨ w.heap.size ≤ k_)) (fun k_ => ((fun k_ => (P0_ k_ ∨ w.heap.size ≤ k_))) k_ ∧ some k_ ≠ (u3 : Value).ownBlock) rfl rfl ?aP (fun _ hk => hk) ?aF ?aO ?aB ?aS ?aL ?_
   (case aP => exact (k83_mkF _ _ (⟨(⟨(rd_T50 l0 x4_1).f0.f0, (rd_T50 l0 x4_1).f0.f1⟩ : S46), (⟨(rd_T50 l0 x4_1).f1.f0, (rd_T50 l0 x4_1).f1.f1⟩ : S46), (rd_T50 l0 x4_1).f2, (rd_T50 l0 x4_1).f3, (rd_T50 l0 x4_1).f4⟩ : S83) (Kd.V_reads' (Kd.V_mono (ok' := (fun k_ => ((fun k_ => (P0_ k_ ∨ w.heap.size ≤ k_))) k_ ∧ some k_ ≠ (u3 : Value).ownBlock)) (HL252_5.out) (fun k_ hk => ⟨hk.1, hk.2⟩))).2.1 (Kd.V_F (Kd.V_mono (ok' := (fun k_ => ((fun k_ => (P0_ k_ ∨ w.heap.size ≤ k_))) k_ ∧ some k_ ≠ (u3 : Value).ownBlock)) (HL252_5.out) (fun k_ hk => ⟨hk.1, hk.2⟩))) (Kd.V_reads' (Kd.V_mono (ok' := (fun k_ => ((fun k_ => (P0_ k_ ∨ w.heap.size ≤ k_))) k_ ∧ some k_ ≠ (u3 : Value).ownBlock)) (HL253_6.out) (fun k_ hk => ⟨hk.1, hk.2⟩))).2.1 (Kd.V_F (Kd.V_mono (ok' := (fun k_ => ((fun k_ => (P0_ k_ ∨ w.heap.size ≤ k_))) k_ ∧ some k_ ≠ (u3 : Value).ownBlock)) (HL253_6.out) (fun k_ hk => ⟨hk.1, hk.2⟩)))))
   (case aB => exact bQ)
   (case aF => exact (fun k_ hk => (.inr (Nat.le_trans (below_size bQ) hk))))
   (case aO => exact (by (with_reducible repeat (first | apply Kd.N_alloc | apply Kd.N_drewN | apply Kd.N_drew)); exact HO_3.out))
   (case aS => exact (below_size bQ))
   (case aL => have := LMc4.out; omega)
   intro v255 w6 ho hb hg hat
   rw [← Ny254.out] at ho
   have n0_ := aM (Kd.V_afterv (ok := (fun k_ => (P0_ k_ ∨ w.heap.size ≤ k_))) (by (with_reducible repeat (first | apply Kd.V_alloc | apply Kd.V_drewN | apply Kd.V_drew)); exact HO_0.out) hg hat)
   have n1_ := aM (Kd.V_afterv (ok := (fun k_ => (P0_ k_ ∨ w.heap.size ≤ k_))) (by (with_reducible repeat (first | apply Kd.V_alloc | apply Kd.V_drewN | apply Kd.V_drew)); exact HL249_5.out) hg hat)
   have n2_ := aM (Kd.V_afterv (ok := (fun k_ => (P0_ k_ ∨ w.heap.size ≤ k_))) (by (with_reducible repeat (first | apply Kd.V_alloc | apply Kd.V_drewN | apply Kd.V_drew)); exact HL249_6.out) hg hat)
   have n3_ := aM (Kd.V_afterv (ok := (fun k_ => (P0_ k_ ∨ w.heap.size ≤ k_))) (by (with_reducible repeat (first | apply Kd.V_alloc | apply Kd.V_drewN | apply Kd.V_drew)); exact HL250_5.out) hg hat)
   have n4_ := aM (Kd.V_afterv (ok := (fun k_ => (P0_ k_ ∨ w.heap.size ≤ k_))) (by (with_reducible repeat (first | apply Kd.V_alloc | apply Kd.V_drewN | apply Kd.V_drew)); exact HL250_6.out) hg hat)
   have n5_ := aM (Kd.V_afterv (ok := (fun k_ => (P0_ k_ ∨ w.heap.size ≤ k_))) (by (with_reducible repeat (first | apply Kd.V_alloc | apply Kd.V_drewN | apply Kd.V_drew)); exact HL251_5.out) hg hat)
   have n6_ := aM (Kd.V_afterv (ok := (fun k_ => (P0_ k_ ∨ w.heap.size ≤ k_))) (by (with_reducible repeat (first | apply Kd.V_alloc | apply Kd.V_drewN | apply Kd.V_drew)); exact HL251_6.out) hg hat)
   have n7_ := aM (Kd.V_afterv (ok := (fun k_ => (P0_ k_ ∨ w.heap.size ≤ k_))) (by (with_reducible repeat (first | apply Kd.V_alloc | apply Kd.V_drewN | apply Kd.V_drew)); exact HL252_5.out) hg hat)
   have n8_ := aM (Kd.V_afterv (ok := (fun k_ => (P0_ k_ ∨ w.heap.size ≤ k_))) (by (with_reducible repeat (first | apply Kd.V_alloc | apply Kd.V_drewN | apply Kd.V_drew)); exact HL252_6.out) hg hat)
   have n9_ := aM (Kd.V_afterv (ok := (fun k_ => (P0_ k_ ∨ w.heap.size ≤ k_))) (by (with_reducible repeat (first | apply Kd.V_alloc | apply Kd.V_drewN | apply Kd.V_drew)); exact HL253_5.out) hg hat)
   have n10_ := aM (Kd.V_afterv (ok := (fun k_ => (P0_ k_ ∨ w.heap.size ≤ k_))) (by (with_reducible repeat (first | apply Kd.V_alloc | apply Kd.V_drewN | apply Kd.V_drew)); exact HL253_6.out) hg hat)
   have n11_ := aM (hb)
   have n12_ := aM (ho)
   clear HO_0
   clear HL249_5
   clear HL249_6
   clear HL250_5
   clear HL250_6
   clear HL251_5
   clear HL251_6
   clear HL252_5
   clear HL252_6
   clear HL253_5
   clear HL253_6
   clear HB
   clear HO_3
   have HO_0 := n0_
   have HL249_5 := n1_
   have HL249_6 := n2_
   have HL250_5 := n3_
   have HL250_6 := n4_
   have HL251_5 := n5_
   have HL251_6 := n6_
   have HL252_5 := n7_
   have HL252_6 := n8_
   have HL253_5 := n9_
   have HL253_6 := n10_
   have HB := n11_
   have HO256 := n12_
   clear n0_ n1_ n2_ n3_ n4_ n5_ n6_ n7_ n8_ n9_ n10_ n11_ n12_
   clear ho hb hg hat
   refine hK.out _ _ ?_
   clear hK K
   refine norm_ (a' := ?_) ?_ ?_
   rotate_left
   ·show Act.put _ (some 39) _ = _
    simp only [Act.put, List.setIfInBounds_toArray, List.set_cons_zero, List.set_cons_succ, i64_w, i32_w]
    rfl
   refine pure_ (i := 29) (N := some 3) (v := ?_) (a' := ?_) #[true, true, true, true, true, true, true, true, true, true, true, true, true, true, true, true, true, true, true, true, true, true, true, true, true, true, true, true, true, true] rfl rfl (any_of HT_.out (by kernel_rfl)) (fun _ _ _ h => h) (Or.inl ⟨by rfl, ?_⟩) ?_ ?_
   rotate_left
   ·intro w'
    go_simp
    with_reducible rfl
   rotate_left
   ·simp only [Act.put, List.setIfInBounds_toArray, List.set_cons_zero, List.set_cons_succ, i64_w, i32_w]
    rfl
   refine done_ (done_of HT_.out (by kernel_rfl)) ?_
   try go_wp2
   go_roundg k1
   case measure => have := HK1.out; omega
   case rel => exact ⟨(y254), (wrap64 (x4_1 + 1)), vQ, H', ⟨by have := HK1.out; omega⟩, ⟨by (with_reducible repeat (first | apply Kd.V_alloc | apply Kd.V_drewN | apply Kd.V_drew)); exact HO_0.out⟩, ⟨by (with_reducible repeat (first | apply Kd.N_alloc | apply Kd.N_drewN | apply Kd.N_drew)); exact HO256.out⟩, ⟨bQ⟩⟩
end Go.Proofs.YtjplnhdplpiogaaGreatDoor.M
end
