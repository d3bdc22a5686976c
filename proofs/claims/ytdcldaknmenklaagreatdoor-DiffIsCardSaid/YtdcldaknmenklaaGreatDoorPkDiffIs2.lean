/- Packed by this session's program hbpack.py out of this claim's own texts (QK, G, Q10, Da, Rf, Sh, Sh2, Q13, EncD, Q141, Q123, Q124, Q125, Q34, Q104, Q74, Q75, Q73, EncA, Q76, EncW, Q77, Q78, Q79, Q80, Q49, EncO, Q26, EncN, Q25, Q11, Q12, Q14, Q81, Q82, Q111, Q83, Q50, Mp, Lr, Q86, Q112): the same declarations, without those that the claim does not use. -/
import Derived.Test.YtdcldaknmenklaaGreatDoorPkDiffIs1
import Derived.Below
import Derived.Deep.Draws
import Derived.Deep.AppendLies
import Derived.Maps.AppendAt
import Derived.OwnWalk
import Derived.Laws.BytesArg
import Derived.Laws.MakeOwn
import Derived.Laws.OwnMore
import Derived.Deep.OwnRows
import Derived.Tactics
import Derived.Lib.ConvBytes
import Derived.Laws.Slices
import Derived.WalkKit
import Derived.KernelRfl
import Derived.RowKit3
import Derived.Deep.LoopGhost
import Derived.Deep.QuietTactic
import Derived.BigQuiet
import Derived.WideLaws
import Derived.Deep.DeepCutAuto
import Derived.Deep.CutBlock
import Derived.Deep.RegionHeld3
import Derived.Laws.Rows
import Derived.Lib.AppendStr
import Derived.ArgAppend
import Derived.Laws.IdiomCopy
import Derived.OrdersHeld
import Derived.Laws.BitsLemmas
import Derived.RowKit
import Derived.Test.YtdcldaknmenklaaGreatDoorProg
import Derived.Lib.LaidTab
import Derived.Lib.Space
import Derived.Lib.ItoaNum
import Derived.Shelf.Strings.Builder1
import Derived.Shelf.Strings.Builder2
import Derived.Shelf.Strings.OnBuilder
import Derived.Shelf.Strings.Trim
import Derived.Shelf.Small.Utf8
import Derived.Shelf.Small.Strs
import Derived.Shelf.Strings.BuilderF
import Derived.Shelf.Strings.BuilderK
import Derived.Shelf.Strings.Builder2Cap
import Derived.Shelf.Strconv.Atoi
import Derived.Shelf.Strconv.Itoa0
import Derived.Shelf.Strconv.Itoa1
import Derived.Shelf.LaysM
import Derived.Shelf.Strconv.Itoa2
import Derived.Shelf.Strconv.Itoa3
import Derived.Shelf.Strconv.ParseIntEmpty
import Derived.Shelf.Strconv.Clone
import Derived.Shelf.Strconv.SyntaxError
import Derived.Shelf.LaysC
import Derived.Shelf.Strconv.ToError
import Derived.Shelf.Strconv.Lower
import Derived.Shelf.Strconv.ParseUint10
import Derived.Shelf.Strconv.ParseUint10Empty
import Derived.Shelf.Strconv.ParseUint10Any
import Derived.Shelf.Strconv.ParseInt10
import Derived.Shelf.Strconv.RangeError
import Derived.Shelf.Strconv.ToErrorRange
import Derived.Shelf.Strconv.ParseUintEmpty
import Derived.Shelf.Strconv.ParseUint10b64
import Derived.Shelf.Strconv.ParseUint10b32
import Derived.Shelf.Strconv.ParseUint10b16
import Derived.Shelf.Strconv.ParseUint10b8
import Derived.Shelf.Strconv.ParseUint10At
import Derived.Shelf.Strconv.ParseInt10At64
import Derived.Shelf.Strconv.ParseInt10At32
import Derived.Shelf.Strconv.ParseInt10At16
import Derived.Shelf.Strconv.ParseInt10At8
import Derived.Shelf.Strconv.ParseInt10All
import Derived.Shelf.Strconv.ParseIntPublic10
import Derived.Shelf.Strings.Search1
import Derived.Shelf.Strings.Search2
import Derived.Shelf.Strings.Cut
import Derived.Shelf.Strings.Shaped
import Derived.Shelf.Strings.Prefix
import Derived.Shelf.Strings.Fields
import Derived.Shelf.Strings.SplitShaped
import Derived.Shelf.Unicode.Latin
import Derived.Shelf.Unicode.Decode
import Derived.Shelf.Strings.Runes
import Derived.Shelf.Strings.AsciiSet
import Derived.Shelf.Unicode.DecodeSlow
import Derived.Shelf.Unicode.DecodeAny
import Derived.Shelf.Unicode.Is16White
import Derived.Shelf.Unicode.IsSpaceAny
import Derived.Shelf.Unicode.Is16WhiteD
import Derived.Shelf.Unicode.Is16Any
import Derived.Shelf.Unicode.Is32Any
import Derived.Shelf.Unicode.ExclAny
import Derived.Shelf.Strings.BuilderCap
import Derived.Shelf.Slices.Turned
import Derived.Ground.Names2Prog
import Derived.Shelf.Slices.Clone
import Derived.Ground.SlgnProg
import Derived.Shelf.SlicesE.Clone
import Derived.Laws.Tables
import Derived.Lib.AppendZeros
import Derived.Lib.Walk
import Derived.Lib.SliceRun
import Derived.Lib.SlBuf
import Derived.Laws.CopyRow
import Derived.Laws.CopyOwn
import Derived.Lib.Builder
import Derived.Maps.RangeWalk
import Derived.Maps.StringElems
import Derived.Maps.OwnOps
import Derived.Lib.Strings
import Derived.Lib.IndexBytes
section
/- Laid by this session's program hbprint.py out of the translation: the values' own kinds. -/
namespace Go.Proofs.YtdcldaknmenklaaGreatDoor.M
open Go.RowKit Go.Proofs.YtdcldaknmenklaaGreatDoorW.PrintWords Go.Proofs.YtdcldaknmenklaaGreatDoorW.PrintLast Go.Proofs.YtdcldaknmenklaaGreatDoorW.PrintMore
attribute [local go_sem] max2_int min2_int max_two min_two max_three min_three max_four min_four
set_option linter.unusedVariables false
set_option linter.unusedSimpArgs false
def errW : Option Int → Value
 | none => .nilIface
 | some c => .iface 0 (.int .i64 c)
theorem errW_none : errW none = .nilIface := rfl
theorem errW_some (c : Int) : errW (some c) = .iface 0 (.int .i64 c) := rfl
theorem info3 : (Tryz.prog.info? 3).map (fun i => (i.zero, i.size, i.bytes)) = some (some (.int .i64 0), 1, 8) := by kernel_rfl
theorem info5 : (Tryz.prog.info? 5).map (fun i => (i.zero, i.size, i.bytes)) = some (some (.int .u8 0), 1, 1) := by kernel_rfl
theorem info9 : (Tryz.prog.info? 9).map (fun i => (i.zero, i.size, i.bytes)) = some (some (.string ⟨#[]⟩), 1, 16) := by kernel_rfl
theorem info32 : (Tryz.prog.info? 32).map (fun i => (i.zero, i.size, i.bytes)) = some (some (.agg #[(.bool false), (.int .i64 0), (.string ⟨#[]⟩)]), 3, 32) := by kernel_rfl
theorem info34 : (Tryz.prog.info? 34).map (fun i => (i.zero, i.size, i.bytes)) = some (some (.agg #[(.bool false), (.int .i64 0), (.string ⟨#[]⟩)]), 3, 32) := by kernel_rfl
theorem info65 : (Tryz.prog.info? 65).map (fun i => (i.zero, i.size, i.bytes)) = some (some (.agg #[(.int .i64 0), (.int .i64 0), (.int .i64 0), (.string ⟨#[]⟩)]), 4, 40) := by kernel_rfl
def rd_L1 (xs : List (List ByteArray)) (i : Int) : (List ByteArray) := xs.getD i.toNat ([] : List ByteArray)
theorem at_L1 {w : World} {A : Option Addr} {n : Nat} {xs : List (List ByteArray)} (h : Kd.C (Kd.slice 9 Kd.string) w A n xs) (i : Int) (h0 : 0 ≤ i) (h1 : i < n) : ∃ ad A0 c0, A = some ad ∧ w.cell? (ad.add i.toNat) = some (.slice A0 (rd_L1 xs i).length c0) ∧ (rd_L1 xs i).length ≤ c0 ∧ Kd.string.C w A0 (rd_L1 xs i).length (rd_L1 xs i) := by
 obtain ⟨ad, c, e, _, hK, hc0⟩ := Kd.C_get h ([] : List ByteArray) i h0 h1
 have hc : ∀ j u, c[j]? = some u → w.cell? (ad.add (i.toNat * 1 + j)) = some u := hc0
 obtain ⟨A0, c0, rfl, l0, g0⟩ := hK
 exact ⟨ad, A0, c0, e, by have hq := hc 0 _ rfl; rwa [Nat.mul_one, Nat.add_zero] at hq, l0, g0⟩
structure S32 where
 f0 : Bool
 f1 : Int
 f2 : ByteArray
def z32 : S32 := ⟨false, (0 : Int), (⟨#[]⟩ : ByteArray)⟩
def k32 : Kd S32 := Kd.iso (Kd.pair Kd.bool (Kd.pair (Kd.int .i64) Kd.string)) (fun x : S32 => (x.f0, x.f1, x.f2))
theorem k32_open {w : World} {x : S32} {cs : List Value} (h : k32.K w x cs) : cs = [.bool x.f0, .int .i64 x.f1, .string x.f2] := by
 obtain ⟨_, _, rfl, rfl, ⟨_, _, rfl, rfl, rfl⟩⟩ := h
 exact rfl
theorem k32_mkM (w : World) (base : Nat) (ok : Nat → Prop) (x : S32)  : k32.M w base ok x [.bool x.f0, .int .i64 x.f1, .string x.f2] := ⟨[.bool x.f0], [.int .i64 x.f1, .string x.f2], rfl, rfl, ⟨[.int .i64 x.f1], [.string x.f2], rfl, rfl, rfl⟩⟩
def rd_T32 (xs : List S32) (i : Int) : S32 := xs.getD i.toNat z32
theorem at_T32 {w : World} {A : Option Addr} {n : Nat} {xs : List S32} (h : Kd.C k32 w A n xs) (i : Int) (h0 : 0 ≤ i) (h1 : i < n) : ∃ ad , A = some ad ∧ w.cell? (ad.add (i.toNat * 3)) = some (.bool (rd_T32 xs i).f0) ∧ w.cell? ⟨(ad.add (i.toNat * 3)).block, (ad.add (i.toNat * 3)).off + 1, none⟩ = some (.int .i64 (rd_T32 xs i).f1) ∧ w.cell? ⟨(ad.add (i.toNat * 3)).block, (ad.add (i.toNat * 3)).off + 2, none⟩ = some (.string (rd_T32 xs i).f2) := by
 obtain ⟨ad, c, e, _, hK, hc0⟩ := Kd.C_get h z32 i h0 h1
 have hc : ∀ j u, c[j]? = some u → w.cell? (ad.add (i.toNat * 3 + j)) = some u := hc0
 obtain rfl := k32_open hK
 exact ⟨ad, e, hc 0 _ rfl, by rw [← add_field _ _ 1 (by omega)]; exact hc 1 _ rfl, by rw [← add_field _ _ 2 (by omega)]; exact hc 2 _ rfl⟩
structure S65 where
 f0 : Int
 f1 : Int
 f2 : Int
 f3 : ByteArray
def z65 : S65 := ⟨(0 : Int), (0 : Int), (0 : Int), (⟨#[]⟩ : ByteArray)⟩
def k65 : Kd S65 := Kd.iso (Kd.pair (Kd.int .i64) (Kd.pair (Kd.int .i64) (Kd.pair (Kd.int .i64) Kd.string))) (fun x : S65 => (x.f0, x.f1, x.f2, x.f3))
theorem k65_open {w : World} {x : S65} {cs : List Value} (h : k65.K w x cs) : cs = [.int .i64 x.f0, .int .i64 x.f1, .int .i64 x.f2, .string x.f3] := by
 obtain ⟨_, _, rfl, rfl, ⟨_, _, rfl, rfl, ⟨_, _, rfl, rfl, rfl⟩⟩⟩ := h
 exact rfl
theorem k65_mkM (w : World) (base : Nat) (ok : Nat → Prop) (x : S65)  : k65.M w base ok x [.int .i64 x.f0, .int .i64 x.f1, .int .i64 x.f2, .string x.f3] := ⟨[.int .i64 x.f0], [.int .i64 x.f1, .int .i64 x.f2, .string x.f3], rfl, rfl, ⟨[.int .i64 x.f1], [.int .i64 x.f2, .string x.f3], rfl, rfl, ⟨[.int .i64 x.f2], [.string x.f3], rfl, rfl, rfl⟩⟩⟩
def rd_T65 (xs : List S65) (i : Int) : S65 := xs.getD i.toNat z65
theorem at_T65 {w : World} {A : Option Addr} {n : Nat} {xs : List S65} (h : Kd.C k65 w A n xs) (i : Int) (h0 : 0 ≤ i) (h1 : i < n) : ∃ ad , A = some ad ∧ w.cell? (ad.add (i.toNat * 4)) = some (.int .i64 (rd_T65 xs i).f0) ∧ w.cell? ⟨(ad.add (i.toNat * 4)).block, (ad.add (i.toNat * 4)).off + 1, none⟩ = some (.int .i64 (rd_T65 xs i).f1) ∧ w.cell? ⟨(ad.add (i.toNat * 4)).block, (ad.add (i.toNat * 4)).off + 2, none⟩ = some (.int .i64 (rd_T65 xs i).f2) ∧ w.cell? ⟨(ad.add (i.toNat * 4)).block, (ad.add (i.toNat * 4)).off + 3, none⟩ = some (.string (rd_T65 xs i).f3) := by
 obtain ⟨ad, c, e, _, hK, hc0⟩ := Kd.C_get h z65 i h0 h1
 have hc : ∀ j u, c[j]? = some u → w.cell? (ad.add (i.toNat * 4 + j)) = some u := hc0
 obtain rfl := k65_open hK
 exact ⟨ad, e, hc 0 _ rfl, by rw [← add_field _ _ 1 (by omega)]; exact hc 1 _ rfl, by rw [← add_field _ _ 2 (by omega)]; exact hc 2 _ rfl, by rw [← add_field _ _ 3 (by omega)]; exact hc 3 _ rfl⟩
structure S34 where
 f0 : Bool
 f1 : Int
 f2 : ByteArray
def z34 : S34 := ⟨false, (0 : Int), (⟨#[]⟩ : ByteArray)⟩
def k34 : Kd S34 := Kd.iso (Kd.pair Kd.bool (Kd.pair (Kd.int .i64) Kd.string)) (fun x : S34 => (x.f0, x.f1, x.f2))
theorem k34_open {w : World} {x : S34} {cs : List Value} (h : k34.K w x cs) : cs = [.bool x.f0, .int .i64 x.f1, .string x.f2] := by
 obtain ⟨_, _, rfl, rfl, ⟨_, _, rfl, rfl, rfl⟩⟩ := h
 exact rfl
theorem k34_mkM (w : World) (base : Nat) (ok : Nat → Prop) (x : S34)  : k34.M w base ok x [.bool x.f0, .int .i64 x.f1, .string x.f2] := ⟨[.bool x.f0], [.int .i64 x.f1, .string x.f2], rfl, rfl, ⟨[.int .i64 x.f1], [.string x.f2], rfl, rfl, rfl⟩⟩
def rd_T34 (xs : List S34) (i : Int) : S34 := xs.getD i.toNat z34
theorem at_T34 {w : World} {A : Option Addr} {n : Nat} {xs : List S34} (h : Kd.C k34 w A n xs) (i : Int) (h0 : 0 ≤ i) (h1 : i < n) : ∃ ad , A = some ad ∧ w.cell? (ad.add (i.toNat * 3)) = some (.bool (rd_T34 xs i).f0) ∧ w.cell? ⟨(ad.add (i.toNat * 3)).block, (ad.add (i.toNat * 3)).off + 1, none⟩ = some (.int .i64 (rd_T34 xs i).f1) ∧ w.cell? ⟨(ad.add (i.toNat * 3)).block, (ad.add (i.toNat * 3)).off + 2, none⟩ = some (.string (rd_T34 xs i).f2) := by
 obtain ⟨ad, c, e, _, hK, hc0⟩ := Kd.C_get h z34 i h0 h1
 have hc : ∀ j u, c[j]? = some u → w.cell? (ad.add (i.toNat * 3 + j)) = some u := hc0
 obtain rfl := k34_open hK
 exact ⟨ad, e, hc 0 _ rfl, by rw [← add_field _ _ 1 (by omega)]; exact hc 1 _ rfl, by rw [← add_field _ _ 2 (by omega)]; exact hc 2 _ rfl⟩
abbrev bA := @below_alloc
abbrev bD := @pw_below_drewN
abbrev b1 := @below_drew1
abbrev rA := @Kd.R_alloc
abbrev rD := @Kd.R_drewN
abbrev r1 := @Kd.R_drew
theorem aM {p : Prop} (h : p) : Aside0 p := ⟨h⟩
theorem repsS (w : World) (base : Nat) (ok : Nat → Prop) (r : List ByteArray) : Reps (Kd.M Kd.string w base ok) 1 r (r.map Value.string) := by
 refine ⟨by rw [List.length_map, Nat.mul_one], fun j p h => ?_⟩
 obtain ⟨hj, rfl⟩ := List.getElem?_eq_some_iff.1 h
 show ((r.map Value.string).drop (j * 1)).take 1 = [Value.string r[j]]
 rw [Nat.mul_one, ← List.map_drop, List.drop_eq_getElem_cons hj]
 rfl
theorem bQ {P : Prop} (h : P := by repeat first|(with_reducible first|exact HB.out|apply bA|apply bD|apply b1|refine below_set ?_ (Aside0.out (by assumption)))|exact HB.out) : P := h
theorem sB {w W w1 : World} (hb : Below W.heap.size W w1) (h : Below w.heap.size w W := by exact bQ) : Aside0 (Below w.heap.size w w1) := ⟨below_step h hb⟩
theorem sG (w : World) {W : World} {g : Nat} (hg : g = W.heap.size) (h : Below w.heap.size w W := by exact bQ) : Aside0 (w.heap.size ≤ g) := ⟨by rw [hg]; exact below_size h⟩
section
variable {α β : Type} {d : Kd α} {d' : Kd β} {e e' base base' : Nat} {ok ok' : Nat → Prop} {w W w1 : World} {v u : Value} {xs : List α} {ys : List β}
theorem rK (h : Aside0 (d.R e w base ok v xs)) (hb : Below W.heap.size W w1) (c : d.R e w base ok v xs → d.R e W base ok v xs := by intro h; (with_reducible repeat first|apply rA|apply rD|apply r1); exact h) : Aside0 (d.R e w1 base ok v xs) := ⟨Kd.R_below (c h.out) hb⟩
theorem mQ (h : Aside0 (d.R e w base ok v xs)) (c : d.R e w base ok v xs → d.R e W base ok v xs := by intro h; (with_reducible repeat first|apply rA|apply rD|apply r1); exact h) : d.R e W base ok v xs := c h.out
theorem eK (h : Aside0 (d.R e w base ok v xs)) (h0 : d'.R e' w1 W.heap.size ok' u ys) (hb : Below W.heap.size W w1) (c : d.R e w base ok v xs → d.R e W base ok v xs := by intro h; (with_reducible repeat first|apply rA|apply rD|apply r1); exact h) : Aside0 (d.R e w1 base (fun k => ok k ∧ some k ≠ u.ownBlock) v xs) := ⟨Kd.R_elder' (c h.out) (Kd.R_base h0) hb⟩
theorem lK (h : d.R e w1 W.heap.size ok v xs) (b : Below w.heap.size w W := by exact bQ) : Aside0 (d.R e w1 w.heap.size ok v xs) := ⟨Kd.R_lower h (below_size b)⟩
theorem nK {w0 : World} (h : d.R e w1 W.heap.size ok v xs) (h0 : Aside0 (d'.R e' w base' ok' u ys)) (c : d'.R e' w base' ok' u ys → d'.R e' W base' ok' u ys := by intro h; (with_reducible repeat first|apply rA|apply rD|apply r1); exact h) (b : Below w0.heap.size w0 W := by exact bQ) : Aside0 (d.R e w1 w0.heap.size (fun k => ok k ∧ some k ≠ u.ownBlock) v xs) := ⟨Kd.R_lower (Kd.R_new' h (Kd.R_lt (c h0.out))) (below_size b)⟩
theorem nK2 {γ : Type} {d2 : Kd γ} {e2 base2 : Nat} {ok2 : Nat → Prop} {w2 w0 : World} {u2 : Value} {zs : List γ} (h : d.R e w1 W.heap.size ok v xs) (h0 : Aside0 (d'.R e' w base' ok' u ys)) (h2 : Aside0 (d2.R e2 w2 base2 ok2 u2 zs)) (c : d'.R e' w base' ok' u ys → d'.R e' W base' ok' u ys := by intro h; (with_reducible repeat first|apply rA|apply rD|apply r1); exact h) (c2 : d2.R e2 w2 base2 ok2 u2 zs → d2.R e2 W base2 ok2 u2 zs := by intro h; (with_reducible repeat first|apply rA|apply rD|apply r1); exact h) (b : Below w0.heap.size w0 W := by exact bQ) : Aside0 (d.R e w1 w0.heap.size (fun k => (ok k ∧ some k ≠ u.ownBlock) ∧ some k ≠ u2.ownBlock) v xs) := ⟨Kd.R_lower (Kd.R_new' (Kd.R_new' h (Kd.R_lt (c h0.out))) (Kd.R_lt (c2 h2.out))) (below_size b)⟩
theorem cQ {P : Prop} {A : Option Addr} {n c : Nat} (h : Aside0 (d.R e w base ok (.slice A n c) xs)) (p : d.C w A xs.length xs → P := by intro h; repeat (first | exact h | (with_reducible first|refine Kd.C_alloc ?_ _|refine Kd.C_drewN ?_ _|refine Kd.C_drew ?_))) : P := p (Kd.R_reads' h.out).2.2
end
section
variable {w W w1 : World} {g : Nat} {o : Obj}
theorem kK (h : Aside0 (w.heap[g]? = some o)) (hb : Below W.heap.size W w1) (c : w.heap[g]? = some o → W.heap[g]? = some o := by intro h; (with_reducible repeat (first | refine blk_drewN ?_ _ | refine blk_drew ?_ | refine blk_alloc ?_ _)); exact h) : Aside0 (w1.heap[g]? = some o) := ⟨blk_below (c h.out) hb⟩
theorem blk_is {o' : Obj} (h : w.heap[g]? = some o') (e : o' = o) : w.heap[g]? = some o := e ▸ h
theorem b4 {t : TypeId} {a b c d : Value} (h : Aside0 (w.heap[g]? = some (.cells #[a, b, c, d] t (0, 0)))) : w.cell? ⟨g, 0, none⟩ = some a ∧ w.cell? ⟨g, 1, none⟩ = some b ∧ w.cell? ⟨g, 2, none⟩ = some c ∧ w.cell? ⟨g, 3, none⟩ = some d ∧ w.frozen? ⟨g, 0, none⟩ = false ∧ w.frozen? ⟨g, 1, none⟩ = false ∧ w.frozen? ⟨g, 2, none⟩ = false ∧ w.frozen? ⟨g, 3, none⟩ = false := ⟨blk_cell h.out 0, blk_cell h.out 1, blk_cell h.out 2, blk_cell h.out 3, blk_frozen h.out 0, blk_frozen h.out 1, blk_frozen h.out 2, blk_frozen h.out 3⟩
end
theorem blk_far2 {w : World} {g g' i : Nat} {t : TypeId} {cs : Array Value} {u : Value} (h : w.heap[g]? = some (.cells cs t (0, 0))) (hp : Aside0 (g ≠ g')) : (w.setCell ⟨g', i, none⟩ u).heap[g]? = some (.cells cs t (0, 0)) := blk_far h hp.out u
theorem kQ {P : Prop} (h : P := by apply blk_is; (with_reducible repeat first | exact Aside0.out (by assumption) | assumption | apply blk_drewN | apply blk_drew | apply blk_alloc | apply blk_set | apply blk_far2); rfl) : P := h
section
variable {P : Program} {ops : Array Oper} {rest : List Oper} {oi : Oper} {a : Act} {Q : Exit → Act → World → Prop} {W : World}
theorem gC (f : FuncId) {xs : Array Operand} {ts : Array TypeId} (h : wpList P ops Q (oi :: rest) a W) (_ho : oi.op = .call { callee := .value (.func f), args := xs, argTypes := ts } := by exact rfl) : wpList P ops Q (oi :: rest) a W := h
theorem gD (N : Tmp) (h : wpList P ops Q (oi :: rest) a W) (_hN : oi.dst = some N := by exact rfl) : wpList P ops Q (oi :: rest) a W := h
theorem gL (N : Option Tmp) {f : FuncId} {fn : Func} {xs : Array Operand} {ts : Array TypeId} (hf : P.funcs[f]? = some fn) (args : Array Value) (h : Calls P f args W fun e w' => ∃ v, e = .returned v ∧ wpList P ops Q rest (a.put N v) w')
 (hd : oi.dst = N := by exact rfl) (hg : oi.guard = none := by exact rfl) (hname : (fn.name == "runtime.NumGoroutine") = false := by kernel_rfl) (hb : fn.body.isSome = true := by exact rfl) (hop : oi.op = .call { callee := .value (.func f), args := xs, argTypes := ts } := by exact rfl)
 (hargs : xs.map a.eval = args := by (try simp only [List.map_toArray, List.map_cons, List.map_nil]); first | done | rfl | (simp only [List.length_drop, List.length_take]; rfl)) : wpList P ops Q (oi :: rest) a W := goesL_ N hd hg hf hname hb args hop hargs h
theorem bE (N : Tmp) {cs : Array Value} {t : TypeId} (h : ∀ g, g = W.heap.size → ∀ w1, w1.heap[g]? = some (.cells cs t (0, 0)) → Below W.heap.size W w1 → wpList P ops Q rest (a.put oi.dst (.pointer (some ⟨g, 0, none⟩))) w1) (hgd : oi.guard = none := by exact rfl) (hd : oi.dst = some N := by exact rfl)
 (hrun : (execOp a.eval oi).run P W = .ok (.value (.pointer (some ⟨W.heap.size, 0, none⟩))) (W.alloc (.cells cs t (0, 0))) := by first | (go_simp; done) | (go_simp; rfl)) : wpList P ops Q (oi :: rest) a W := box_event hgd hd hrun h
end
theorem cB {P : Program} {f : FuncId} {args : Array Value} {w : World} {v : Value} {K : Value → World → Prop} (h : Calls P f args w fun e w' => e = .returned v ∧ Below w.heap.size w w') (k : ∀ w', Below w.heap.size w w' → K v w') : Calls P f args w fun e w' => ∃ v, e = .returned v ∧ K v w' := h.mono (by rintro e w' ⟨rfl, hb⟩; exact ⟨_, rfl, k _ hb⟩)
theorem vQ {P : Prop} (h : P := by first|rfl|(simp;done)|(simp [*];done)) : P := h
theorem hQ {P : Prop} (h : P := by first|with_reducible assumption|assumption) : P := h
theorem eQ {P : Prop} (h : P := by first | rfl | (simp [errW_none, errW_some] <;> rfl) | (simp [*, errW_none, errW_some] <;> rfl)) : P := h
theorem bS {α β : Type} {o : Option α} {f : α → Option β} {r : β} (h : o.bind f = some r) : ∃ x, Aside0 (o = some x) ∧ f x = some r := by
 obtain ⟨x, h1, h2⟩ := Option.bind_eq_some_iff.mp h
 exact ⟨x, ⟨h1⟩, h2⟩
section
variable {α : Type} {p : Prop} {_ : Decidable p} {x y z : α} {G : Prop}
theorem iD (H : (if p then x else y) = z) (h1 : x = z → decide p = true → G) (h2 : y = z → decide p = false → G) : G := by
 by_cases c : p
 ·exact h1 ((if_pos c).symm.trans H) (decide_eq_true c)
 ·exact h2 ((if_neg c).symm.trans H) (decide_eq_false c)
theorem iNc (H : (if p then x else y) = z) (h1 : x = z → p → G) (h2 : y = z → ¬ p → G) : G := by
 by_cases c : p
 ·exact h1 ((if_pos c).symm.trans H) c
 ·exact h2 ((if_neg c).symm.trans H) c
theorem iDc (H : (if p then x else y) = z) (h1 : x = z → decide p = true → p → G) (h2 : y = z → decide p = false → ¬ p → G) : G := by
 by_cases c : p
 ·exact h1 ((if_pos c).symm.trans H) (decide_eq_true c) c
 ·exact h2 ((if_neg c).symm.trans H) (decide_eq_false c) c
theorem iEc {β : Type} [BEq β] [LawfulBEq β] {a b : β} {_ : Decidable (a = b)} (H : (if a = b then x else y) = z) (h1 : x = z → (a == b) = true → (a != b) = false → a = b → G) (h2 : y = z → (a == b) = false → (a != b) = true → ¬ a = b → G) : G := by
 by_cases c : a = b
 ·exact h1 ((if_pos c).symm.trans H) (beq_iff_eq.mpr c) (bne_eq_false_iff_eq.mpr c) c
 ·exact h2 ((if_neg c).symm.trans H) (beq_eq_false_iff_ne.mpr c) (bne_iff_ne.mpr c) c
end
end Go.Proofs.YtdcldaknmenklaaGreatDoor.M
end
section
namespace Go.Proofs.YtdcldaknmenklaaGreatDoor.M
open Go.RowKit Go.Proofs.YtdcldaknmenklaaGreatDoorW.PrintWords
set_option linter.unusedVariables false
theorem tab_below {P : Program} {n : String} {g : Nat} {k : IntKind} {zs : List Int} {w w' : World} (hg : P.globalNamed n = some g) (h : Lib.TabIs P w n k zs) (hb : Below w.heap.size w w') : Lib.TabIs P w' n k zs := by
 unfold Lib.TabIs World.var? at h ⊢
 rw [hg] at h ⊢
 simp only [Option.bind_some] at h ⊢
 have hlt : g < w.heap.size := by
  rcases Nat.lt_or_ge g w.heap.size with h' | h'
  ·exact h'
  ·rw [Array.getElem?_eq_none h'] at h; cases h
 rw [hb.block g hlt]
 exact h
/-- strconv.ErrRange holds a pointer to an errors.errorString; internal/bytealg.MaxLen holds some int. -/
structure GW (w : World) : Prop where
 range : ∃ a, w.cell? ⟨1, 0, none⟩ = some (.iface 212 (.pointer (some a)))
 syn : ∃ a, w.cell? ⟨5, 0, none⟩ = some (.iface 212 (.pointer (some a)))
 max : ∃ m : Int, w.cell? ⟨2, 0, none⟩ = some (.int .i64 m)
 space : Lib.TabIs Tryz.prog w "strings.asciiSpace" .u8 Lib.asciiSpaceTab
 pow : Lib.TabIs Tryz.prog w "internal/strconv.uint64pow10" .u64 Lib.pow10Tab
theorem GW.below {w w1 : World} (hb : Below w.heap.size w w1) (h : GW w) : GW w1 where
 range := h.range.imp fun _ e => pw_cell_below hb e
 syn := h.syn.imp fun _ e => pw_cell_below hb e
 max := h.max.imp fun _ e => pw_cell_below hb e
 space := tab_below (g := 0) (by kernel_rfl) h.space hb
 pow := tab_below (g := 3) (by kernel_rfl) h.pow hb
theorem GW.drew {w : World} (h : GW w) : GW w.drew where
 range := h.range
 syn := h.syn
 max := h.max
 space := h.space
 pow := h.pow
theorem GW.alloc {w : World} (h : GW w) (o : Obj) : GW (w.alloc o) := h.below (below_alloc (Below.refl _ _) o)
theorem gQ {w W : World} (hg : GW w) (h : Below w.heap.size w W := by exact bQ) : GW W := GW.below h hg
end Go.Proofs.YtdcldaknmenklaaGreatDoor.M
end
section
/- Laid by this session's program hbprint.py out of the translation: the function hornbook/hornbookref17.Few and its contract. -/
namespace Go.Proofs.YtdcldaknmenklaaGreatDoor.M
open Go.RowKit Go.Proofs.YtdcldaknmenklaaGreatDoorW.PrintWords Go.Proofs.YtdcldaknmenklaaGreatDoorW.PrintLast Go.Proofs.YtdcldaknmenklaaGreatDoorW.PrintMore
attribute [local go_sem] max2_int min2_int max_two min_two max_three min_three max_four min_four
set_option linter.unusedVariables false
set_option linter.unusedSimpArgs false
mutual
def hornbookref17_Few.l0 : Nat → List (S34) → Int → Option (Bool)
 | 0, _, _ => none
 | k + 1, x0, x3 => if x3 < (x0.length : Int) then (hornbookref17_Few.j1 k x0 x3 (decide (x3 < 600))) else (hornbookref17_Few.j1 k x0 x3 false)
def hornbookref17_Few.j1 : Nat → List (S34) → Int → Bool → Option (Bool)
 | 0, _, _, _ => none
 | k + 1, x0, x3, x11 => if x11 = true then (if 0 ≤ x3 then (if x3 < (x0.length : Int) then (if (((rd_T34 x0 x3).f2).size : Int) > 100 then (some false) else (hornbookref17_Few.l0 k x0 (wrap64 (x3 + 1)))) else (none)) else (none)) else (some (decide ((x0.length : Int) ≤ 600)))
end
def hornbookref17_Few.f (k : Nat) (l0 : List (S34)) : Option (Bool) := hornbookref17_Few.l0 k l0 0
set_option maxHeartbeats 8000000 in
set_option maxRecDepth 100000 in
theorem hornbookref17_Few.calls (k : Nat) (A0 : Option Addr) (c0 : Nat) (l0 : List (S34)) (r : Bool) (w : World) (hr0 : Kd.C k34 w A0 l0.length l0) (hc0 : l0.length ≤ c0) (h : hornbookref17_Few.f k l0 = some r) :
  Calls Tryz.prog 10 #[.slice A0 l0.length c0] w fun e w' => e = .returned (.bool r) ∧ Drawn0 w w' := by
 have HR0 := aM hr0
 have HC0 := aM hc0
 clear hr0 hc0
 have H : (hornbookref17_Few.l0 k l0 0) = some r := h
 clear h
 have H' := aM H
 clear H
 go_enter Tryz.func10, Tryz.ntmps10
 go_wp2
 go_loopg [3] k (fun kq v3 w' => ∃ (x3_1 : Int), v3 = .int .i64 x3_1 ∧ Aside0 (hornbookref17_Few.l0 kq l0 x3_1 = some r) ∧ Aside0 (kq ≤ k) ∧ Drawn0 w w')
 case atStart => exact ⟨(0), vQ, H', ⟨Nat.le_refl _⟩, by repeat (first | exact Drawn0.refl _ | apply Drawn0.step)⟩
 case round =>
  clear H'
  try clear c1
  obtain ⟨x3_1, rfl, HA, HK1, ⟨m1, rfl⟩⟩ := hrel
  cases gk with
  | zero => exact absurd HA.out (by simp [hornbookref17_Few.l0])
  | succ k1 =>
   have H := HA.out
   clear HA
   simp only [hornbookref17_Few.l0] at H
   have HC2 := aM H
   clear H
   go_upto_region 2 with (fail)
   go_cut [11] (fun v11 wc => ∃ (kq : Nat) (x11_1 : Bool), v11 = .bool x11_1 ∧ Aside0 (hornbookref17_Few.j1 kq l0 x3_1 x11_1 = some r) ∧ Aside0 (kq ≤ k1) ∧ Drawn0 w wc)
   case first =>
    have H := HC2.out
    clear HC2
    refine iD H ?_ ?_<;>clear H<;>intro H c3b0
    ·(first | rw [c3b0] | (simp only [i64_w, i32_w]; rw [c3b0]) | skip)
     have H' := aM H
     clear H
     go_wp2
     go_meet
     case rel => exact ⟨_, (decide (x3_1 < 600)), vQ, H', ⟨by have := HK1.out; first | omega | exact Nat.le_refl _⟩, by repeat (first | exact Drawn0.refl _ | apply Drawn0.step)⟩
    (first | rw [c3b0] | (simp only [i64_w, i32_w]; rw [c3b0]) | skip)
    have H' := aM H
    clear H
    go_wp2
    go_meet
    case rel => exact ⟨_, (false), vQ, H', ⟨by have := HK1.out; first | omega | exact Nat.le_refl _⟩, by repeat (first | exact Drawn0.refl _ | apply Drawn0.step)⟩
   case rest =>
    clear HC2
    try clear c1
    try clear p2
    try clear c3
    try clear c3b0
    obtain ⟨kq, x11_1, rfl, HA, HJ1, ⟨mc1, rfl⟩⟩ := hcut
    cases kq with
    | zero => exact absurd HA.out (by simp [hornbookref17_Few.j1])
    | succ kj1 =>
     have H := HA.out
     clear HA
     simp only [hornbookref17_Few.j1] at H
     by_cases c4 : x11_1 = true
     rotate_left
     ·replace c4 := Bool.eq_false_iff.mpr c4
      subst c4
      rw [if_neg (show ¬ (false = true) by decide)] at H
      obtain rfl := Option.some.inj H
      go_wp2
      go_ret
      exact ⟨by first | rfl | (simp; done) | (simp [*]; done), by repeat (first | exact Drawn0.refl _ | apply Drawn0.step)⟩
     subst c4
     rw [if_pos rfl] at H
     refine iD H ?_ ?_<;>clear H<;>intro H c5b0
     rotate_left
     ·exact absurd H (by simp)
     refine iD H ?_ ?_<;>clear H<;>intro H c6b0
     rotate_left
     ·exact absurd H (by simp)
     refine iNc H ?_ ?_<;>clear H<;>intro H c7
     ·have c7b0 : decide (100 < (((rd_T34 l0 x3_1).f2).size : Int)) = true := decide_eq_true c7
      have c7b1 : decide (100 < ((rd_T34 l0 x3_1).f2).size) = true := decide_eq_true (by omega)
      clear c7
      obtain rfl := Option.some.inj H
      have p289 : 0 ≤ (x3_1 : Int) := of_decide_eq_true hQ
      have q289 : x3_1 < (l0.length : Int) := of_decide_eq_true hQ
      obtain ⟨ad289, e289, hx289_0, hx289_1, hx289_2⟩ := at_T34 HR0.out x3_1 p289 q289
      cases e289
      replace p289 := eq_true p289
      replace q289 := eq_true q289
      go_wp2
      go_ret
      exact ⟨by first | rfl | (simp; done) | (simp [*]; done), by repeat (first | exact Drawn0.refl _ | apply Drawn0.step)⟩
     have c7b0 : decide (100 < (((rd_T34 l0 x3_1).f2).size : Int)) = false := decide_eq_false c7
     have c7b1 : decide (100 < ((rd_T34 l0 x3_1).f2).size) = false := decide_eq_false (by omega)
     clear c7
     have H' := aM H
     clear H
     have p289 : 0 ≤ (x3_1 : Int) := of_decide_eq_true hQ
     have q289 : x3_1 < (l0.length : Int) := of_decide_eq_true hQ
     obtain ⟨ad289, e289, hx289_0, hx289_1, hx289_2⟩ := at_T34 HR0.out x3_1 p289 q289
     cases e289
     replace p289 := eq_true p289
     replace q289 := eq_true q289
     go_wp2
     go_roundg kj1
     case measure => have := HK1.out; have := HJ1.out; omega
     case rel => exact ⟨(wrap64 (x3_1 + 1)), vQ, H', ⟨by have := HK1.out; have := HJ1.out; omega⟩, by repeat (first | exact Drawn0.refl _ | apply Drawn0.step)⟩
end Go.Proofs.YtdcldaknmenklaaGreatDoor.M
end
section
namespace Go.Proofs.YtdcldaknmenklaaGreatDoor.M
set_option linter.unusedVariables false
/-- An entry: is it a byte, which one, and a name. -/
abbrev En := Bool × Int × ByteArray
abbrev St := List ByteArray × Int
def stepG (st : St) (x : En) : Except Int St :=
 if x.1 = true then (if x.2.1 < 0 ∨ 256 ≤ x.2.1 then .error 7 else .ok (st.1, x.2.1))
 else if st.2 < 0 then .error 3 else if 256 ≤ st.2 then .error 7 else .ok (st.1.set st.2.toNat x.2.2, st.2 + 1)
def runG : St → Nat → List En → Except (Nat × Int) St
 | st, _, [] => .ok st
 | st, k, x :: r => match stepG st x with
  | .error e => .error (k, e)
  | .ok s => runG s (k + 1) r
theorem stepG_size {st s : St} {x : En} (h : stepG st x = .ok s) : s.1.length = st.1.length := by
 unfold stepG at h
 split at h
 ·split at h
  ·cases h
  ·injection h with h; subst h; rfl
 ·split at h
  ·cases h
  ·split at h
   ·cases h
   ·injection h with h; subst h; simp
theorem runG_size : ∀ (l : List En) (st s : St) (k : Nat), runG st k l = .ok s → s.1.length = st.1.length
 | [], st, s, k, h => by injection h with h; subst h; rfl
 | x :: l, st, s, k, h => by
  rw [runG] at h
  cases hs : stepG st x with
  | error e => rw [hs] at h; cases h
  | ok s1 =>
   rw [hs] at h
   exact (runG_size l s1 s (k + 1) h).trans (stepG_size hs)
/-- The entries that lead from some names to others. -/
def ofG : Nat → Bool → List ByteArray → List ByteArray → List En
 | c, row, b :: bs, n :: ns => if b = n then ofG (c + 1) false bs ns else if row = true then (false, 0, n) :: ofG (c + 1) true bs ns else (true, (c : Int), ⟨#[]⟩) :: (false, 0, n) :: ofG (c + 1) true bs ns
 | _, _, _, _ => []
/-- All bytes that are told are bytes, and each name is one that differs. -/
theorem ofG_like : ∀ (bs ns : List ByteArray) (c : Nat) (row : Bool), bs.length = ns.length → c + bs.length ≤ 256 →
  (∀ x ∈ ofG c row bs ns, (x.1 = true → 0 ≤ x.2.1 ∧ x.2.1 ≤ 255 ∧ x.2.2 = ⟨#[]⟩) ∧ (x.1 = false → x.2.1 = 0 ∧ x.2.2 ∈ ns)) ∧
  ((ofG c row bs ns).filter (fun x => !x.1)).length = ((bs.zip ns).filter (fun x => decide (x.1 ≠ x.2))).length ∧ (ofG c row bs ns).length ≤ 2 * bs.length
 | [], [], c, row, _, _ => by simp [ofG]
 | [], _ :: _, _, _, h, _ => by simp at h
 | _ :: _, [], _, _, h, _ => by simp at h
 | b :: bs, n :: ns, c, row, hl, hc => by
  rw [List.length_cons, List.length_cons] at hl
  rw [List.length_cons] at hc
  rw [ofG, List.zip_cons_cons, List.length_cons]
  by_cases hbn : b = n
  ·obtain ⟨i1, i2, i3⟩ := ofG_like bs ns (c + 1) false (by omega) (by omega)
   subst hbn
   rw [if_pos rfl, List.filter_cons_of_neg (by simp)]
   exact ⟨fun x hx => ⟨(i1 x hx).1, fun h => ⟨((i1 x hx).2 h).1, List.mem_cons_of_mem _ ((i1 x hx).2 h).2⟩⟩, i2, by omega⟩
  ·obtain ⟨i1, i2, i3⟩ := ofG_like bs ns (c + 1) true (by omega) (by omega)
   rw [if_neg hbn, List.filter_cons_of_pos (by simpa using hbn)]
   have hnm : ∀ x ∈ ((false, 0, n) :: ofG (c + 1) true bs ns : List En), (x.1 = true → 0 ≤ x.2.1 ∧ x.2.1 ≤ 255 ∧ x.2.2 = ⟨#[]⟩) ∧ (x.1 = false → x.2.1 = 0 ∧ x.2.2 ∈ n :: ns) := by
    intro x hx
    rcases List.mem_cons.1 hx with rfl | hx
    ·exact ⟨fun h => (by cases h), fun _ => ⟨rfl, by simp⟩⟩
    ·exact ⟨(i1 x hx).1, fun h => ⟨((i1 x hx).2 h).1, List.mem_cons_of_mem _ ((i1 x hx).2 h).2⟩⟩
   by_cases hrow : row = true
   ·rw [if_pos hrow, List.filter_cons_of_pos (by simp), List.length_cons, List.length_cons, List.length_cons, i2]
    exact ⟨hnm, rfl, by omega⟩
   ·rw [if_neg hrow, List.filter_cons_of_neg (by simp), List.filter_cons_of_pos (by simp), List.length_cons, List.length_cons, List.length_cons, List.length_cons, i2]
    refine ⟨fun x hx => ?_, rfl, by omega⟩
    rcases List.mem_cons.1 hx with rfl | hx
    ·refine ⟨fun _ => ?_, fun h => by cases h⟩
     dsimp only
     exact ⟨by omega, by omega, rfl⟩
    ·exact hnm x hx
end Go.Proofs.YtdcldaknmenklaaGreatDoor.M
end
section
namespace Go.Proofs.YtdcldaknmenklaaGreatDoor.M
open Go.RowKit Go.Proofs.YtdcldaknmenklaaGreatDoorW.PrintWords
set_option linter.unusedVariables false
theorem strings_fresh (w : World) (xs : List ByteArray) (cells : Array Value) (n cap : Nat) (hn : xs.length = n) (hc : n ≤ cap) (hm : cap ≤ maxLen) (hs : cells.size = cap) (ht : cells.toList.take n = xs.map Value.string) :
  Kd.R Kd.string 9 (w.alloc (.cells cells 9)) w.heap.size (fun _ => True) (.slice (some ⟨w.heap.size, 0, none⟩) n cap) xs := by
 subst hn
 refine Kd.R_of_own ?_ (fun _ _ => trivial)
 refine ⟨by simp [encs], .inr ⟨w.heap.size, cap, cells, rfl, Nat.le_refl _, by show (w.heap.push _)[w.heap.size]? = _; rw [Array.getElem?_push_size], hc, hm, by rw [hs, Nat.mul_one], ?_⟩⟩
 rw [Nat.mul_one, ht]
 rfl
theorem strings_read {w : World} {A : Option Addr} {n : Nat} {xs : List ByteArray} (h : Kd.C Kd.string w A n xs) (h0 : 0 < n) :
  ∃ b o, A = some ⟨b, o, none⟩ ∧ b < w.heap.size ∧ ∀ (j : Nat) x, xs[j]? = some x → w.cell? ⟨b, o + j, none⟩ = some (.string x) := by
 obtain ⟨ad, e, hc⟩ := Kd.at_string h 0 (Int.le_refl _) (by omega)
 obtain ⟨b, o, sp⟩ := ad
 have hsp : sp = none := by
  cases sp with
  | none => rfl
  | some s =>
   exfalso
   unfold World.cell? at hc
   simp only [Addr.add] at hc
   split at hc
   ·simp at hc
   ·cases hc
 subst hsp
 refine ⟨b, o, e, World.block_lt_of_cell? w _ hc, ?_⟩
 intro j x hx
 have hl : xs.length = n := h.1
 have hj : j < xs.length := by
  rcases Nat.lt_or_ge j xs.length with h' | h'
  ·exact h'
  ·rw [List.getElem?_eq_none h'] at hx; cases hx
 obtain ⟨ad', e', hc'⟩ := Kd.at_string h (j : Int) (by omega) (by omega)
 have ea : ad' = ⟨b, o, none⟩ := Option.some.inj (e'.symm.trans e)
 subst ea
 have ex : rdOf ByteArray.empty xs (j : Int) = x := by
  unfold rdOf
  rw [Int.toNat_natCast, List.getD_eq_getElem?_getD, hx]; rfl
 rw [ex] at hc'
 by_cases e0 : j = 0
 ·subst e0; simpa [Addr.add] using hc'
 ·simpa [Addr.add, e0] using hc'
theorem strings_readA {w : World} {A : Option Addr} {n : Nat} {xs : List ByteArray} (h : Kd.C Kd.string w A n xs) (h0 : 0 < n) :
  ∃ ad : Addr, A = some ad ∧ ad.block < w.heap.size ∧ ∀ (j : Nat) x, xs[j]? = some x → w.cell? (ad.add j) = some (.string x) := by
 obtain ⟨b, o, e, hb, hc⟩ := strings_read h h0
 refine ⟨⟨b, o, none⟩, e, hb, ?_⟩
 intro j x hx
 have := hc j x hx
 by_cases e0 : j = 0
 ·subst e0; simpa [Addr.add] using this
 ·simpa [Addr.add, e0] using this
end Go.Proofs.YtdcldaknmenklaaGreatDoor.M
end
section
namespace Go.Proofs
open Go.Shelf
def Tryz.lays169_ren : Go.Shelf.Ren := ⟨fun | 169 => 43 | n => n, fun | 70 => 77 | 9 => 9 | 0 => 0 | 72 => 80 | 37 => 78 | 127 => 99 | 3 => 3 | 5 => 5 | n => n, fun | n => n⟩
theorem Tryz.lays169 : Go.Proofs.Lays.n169 Tryz.prog Tryz.lays169_ren := {
 mixed := by kernel_rfl
 f169 := Tryz.func43.trans (congrArg some (by kernel_rfl))
 t0 := Tryz.underlying0
 a0 := Tryz.isAgg0
 z0 := Tryz.sizeOf0
 v0 := Tryz.zeroValue0
 t3 := Tryz.underlying3
 a3 := Tryz.isAgg3
 z3 := Tryz.sizeOf3
 v3 := Tryz.zeroValue3
 t9 := Tryz.underlying9
 a9 := Tryz.isAgg9
 z9 := Tryz.sizeOf9
 v9 := Tryz.zeroValue9
 t37 := Tryz.underlying78
 a37 := Tryz.isAgg78
 z37 := Tryz.sizeOf78
 v37 := Tryz.zeroValue78
 t70 := Tryz.underlying77
 a70 := Tryz.isAgg77
 z70 := Tryz.sizeOf77
 v70 := Tryz.zeroValue77
 t72 := Tryz.underlying80
 a72 := Tryz.isAgg80
 z72 := Tryz.sizeOf80
 v72 := Tryz.zeroValue80
 t127 := Tryz.underlying99
 a127 := Tryz.isAgg99
 z127 := Tryz.sizeOf99
 v127 := Tryz.zeroValue99 }
theorem Tryz.Builder_Extra_169 : Builder.Extra Tryz.prog Tryz.lays169_ren := {
 sizeBuilder := by kernel_rfl
 liesBuilder := by kernel_rfl
 t5 := Tryz.underlying5
 a5 := Tryz.isAgg5
 z5 := Tryz.sizeOf5
 v5 := Tryz.zeroValue5
 infoByte := by kernel_rfl
 cellsByte := by kernel_rfl
 sizeByte := by kernel_rfl
 neB5 := by decide }
def Tryz.lays156_ren : Go.Shelf.Ren := ⟨fun | 156 => 34 | 165 => 41 | 166 => 42 | 169 => 43 | 240 => 69 | 241 => 70 | 276 => 98 | 277 => 99 | n => n, fun | 31 => 25 | 9 => 9 | 3 => 3 | 4 => 4 | 0 => 0 | 20 => 20 | 72 => 80 | 76 => 84 | 70 => 77 | 37 => 78 | 75 => 83 | 127 => 99 | 164 => 121 | 5 => 5 | 80 => 68 | n => n, fun | n => n⟩
theorem Tryz.lays156 : Go.Proofs.Lays.n156 Tryz.prog Tryz.lays156_ren := {
 mixed := by kernel_rfl
 f156 := Tryz.func34.trans (congrArg some (by kernel_rfl))
 f165 := Tryz.func41.trans (congrArg some (by kernel_rfl))
 f166 := Tryz.func42.trans (congrArg some (by kernel_rfl))
 f169 := Tryz.func43.trans (congrArg some (by kernel_rfl))
 f240 := Tryz.func69.trans (congrArg some (by kernel_rfl))
 f241 := Tryz.func70.trans (congrArg some (by kernel_rfl))
 f276 := Tryz.func98.trans (congrArg some (by kernel_rfl))
 f277 := Tryz.func99.trans (congrArg some (by kernel_rfl))
 t0 := Tryz.underlying0
 a0 := Tryz.isAgg0
 z0 := Tryz.sizeOf0
 v0 := Tryz.zeroValue0
 t3 := Tryz.underlying3
 a3 := Tryz.isAgg3
 z3 := Tryz.sizeOf3
 v3 := Tryz.zeroValue3
 t4 := Tryz.underlying4
 a4 := Tryz.isAgg4
 z4 := Tryz.sizeOf4
 v4 := Tryz.zeroValue4
 t9 := Tryz.underlying9
 a9 := Tryz.isAgg9
 z9 := Tryz.sizeOf9
 v9 := Tryz.zeroValue9
 t20 := Tryz.underlying20
 a20 := Tryz.isAgg20
 z20 := Tryz.sizeOf20
 v20 := Tryz.zeroValue20
 t31 := Tryz.underlying25
 a31 := Tryz.isAgg25
 z31 := Tryz.sizeOf25
 v31 := Tryz.zeroValue25
 t37 := Tryz.underlying78
 a37 := Tryz.isAgg78
 z37 := Tryz.sizeOf78
 v37 := Tryz.zeroValue78
 t70 := Tryz.underlying77
 a70 := Tryz.isAgg77
 z70 := Tryz.sizeOf77
 v70 := Tryz.zeroValue77
 t72 := Tryz.underlying80
 a72 := Tryz.isAgg80
 z72 := Tryz.sizeOf80
 v72 := Tryz.zeroValue80
 t75 := Tryz.underlying83
 a75 := Tryz.isAgg83
 z75 := Tryz.sizeOf83
 v75 := Tryz.zeroValue83
 t76 := Tryz.underlying84
 a76 := Tryz.isAgg84
 z76 := Tryz.sizeOf84
 v76 := Tryz.zeroValue84
 t127 := Tryz.underlying99
 a127 := Tryz.isAgg99
 z127 := Tryz.sizeOf99
 v127 := Tryz.zeroValue99
 t164 := Tryz.underlying121
 a164 := Tryz.isAgg121
 z164 := Tryz.sizeOf121
 v164 := Tryz.zeroValue121 }
theorem Tryz.Builder_Extra_156 : Builder.Extra Tryz.prog Tryz.lays156_ren := {
 sizeBuilder := by kernel_rfl
 liesBuilder := by kernel_rfl
 t5 := Tryz.underlying5
 a5 := Tryz.isAgg5
 z5 := Tryz.sizeOf5
 v5 := Tryz.zeroValue5
 infoByte := by kernel_rfl
 cellsByte := by kernel_rfl
 sizeByte := by kernel_rfl
 neB5 := by decide }
open Go.RowKit in
/-- No element: the empty string; the world is as it was. (Whatever the slice's address and capacity: a nil slice too.) (LAID: no walk: one application.) -/
theorem Tryz.strings_Join_none (a : Option Addr) (c : Nat) (sep : ByteArray) (w : World) :
  Calls Tryz.prog 34 #[.slice a 0 c, .string sep] w fun e w' => e = .returned (.string ⟨#[]⟩) ∧ w' = w := Any.strings_Join_none Tryz.lays156 Tryz.Builder_Extra_156 a c sep w
open Go.RowKit in
/-- strings.Join: "Join concatenates the elements of its first argument to create a single string. The separator string sep is placed between elements in the resulting string.": HOWEVER MANY ELEMENTS. Below the heap's end the world is as it was. (LAID: no walk: one application.) -/
theorem Tryz.strings_Join (bk o c : Nat) (xs : List ByteArray) (sep : ByteArray) (w : World) (hcells : ∀ (j : Nat) x, xs[j]? = some x → w.cell? ⟨bk, o + j, none⟩ = some (.string x)) (hbk : bk < w.heap.size) (hN : xs.length ≤ 140737488355328) (hcap : xs.length ≤ c) (hlen : (Lib.join (xs.map (·.data.toList)) sep.data.toList).length ≤ 140737488355328) :
  Calls Tryz.prog 34 #[.slice (some ⟨bk, o, none⟩) xs.length c, .string sep] w fun e w' => e = .returned (.string ⟨(Lib.join (xs.map (·.data.toList)) sep.data.toList).toArray⟩) ∧ Below w.heap.size w w' := Any.strings_Join Tryz.lays156 Tryz.Builder_Extra_156 bk o c xs sep w hcells hbk hN hcap hlen
def Tryz.lays160_ren : Go.Shelf.Ren := ⟨fun | 160 => 136 | 232 => 152 | 231 => 151 | 227 => 153 | 234 => 155 | 233 => 154 | 236 => 157 | 235 => 156 | 228 => 161 | 271 => 164 | 151 => 163 | 197 => 162 | 120 => 167 | 152 => 166 | 260 => 165 | 137 => 82 | 119 => 168 | 224 => 145 | 225 => 144 | 217 => 110 | 266 => 133 | n => n, fun | 9 => 9 | 4 => 4 | 3 => 3 | 5 => 5 | 117 => 190 | 116 => 189 | 0 => 0 | 124 => 193 | 21 => 21 | 105 => 216 | 46 => 112 | 119 => 130 | 139 => 222 | 138 => 221 | n => n, fun | 3 => 8 | 4 => 9 | n => n⟩
theorem Tryz.lays160 : Go.Proofs.Lays.n160 Tryz.prog Tryz.lays160_ren := {
 mixed := by kernel_rfl
 f119 := Tryz.func168.trans (congrArg some (by kernel_rfl))
 f120 := Tryz.func167.trans (congrArg some (by kernel_rfl))
 f137 := Tryz.func82.trans (congrArg some (by kernel_rfl))
 f151 := Tryz.func163.trans (congrArg some (by kernel_rfl))
 f152 := Tryz.func166.trans (congrArg some (by kernel_rfl))
 f160 := Tryz.func136.trans (congrArg some (by kernel_rfl))
 f197 := Tryz.func162.trans (congrArg some (by kernel_rfl))
 f217 := Tryz.func110.trans (congrArg some (by kernel_rfl))
 f224 := Tryz.func145.trans (congrArg some (by kernel_rfl))
 f225 := Tryz.func144.trans (congrArg some (by kernel_rfl))
 f227 := Tryz.func153.trans (congrArg some (by kernel_rfl))
 f228 := Tryz.func161.trans (congrArg some (by kernel_rfl))
 f231 := Tryz.func151.trans (congrArg some (by kernel_rfl))
 f232 := Tryz.func152.trans (congrArg some (by kernel_rfl))
 f233 := Tryz.func154.trans (congrArg some (by kernel_rfl))
 f234 := Tryz.func155.trans (congrArg some (by kernel_rfl))
 f235 := Tryz.func156.trans (congrArg some (by kernel_rfl))
 f236 := Tryz.func157.trans (congrArg some (by kernel_rfl))
 f260 := Tryz.func165.trans (congrArg some (by kernel_rfl))
 f266 := Tryz.func133.trans (congrArg some (by kernel_rfl))
 f271 := Tryz.func164.trans (congrArg some (by kernel_rfl))
 t0 := Tryz.underlying0
 a0 := Tryz.isAgg0
 z0 := Tryz.sizeOf0
 v0 := Tryz.zeroValue0
 t3 := Tryz.underlying3
 a3 := Tryz.isAgg3
 z3 := Tryz.sizeOf3
 v3 := Tryz.zeroValue3
 t4 := Tryz.underlying4
 a4 := Tryz.isAgg4
 z4 := Tryz.sizeOf4
 v4 := Tryz.zeroValue4
 t5 := Tryz.underlying5
 a5 := Tryz.isAgg5
 z5 := Tryz.sizeOf5
 v5 := Tryz.zeroValue5
 t9 := Tryz.underlying9
 a9 := Tryz.isAgg9
 z9 := Tryz.sizeOf9
 v9 := Tryz.zeroValue9
 t21 := Tryz.underlying21
 a21 := Tryz.isAgg21
 z21 := Tryz.sizeOf21
 v21 := Tryz.zeroValue21
 t46 := Tryz.underlying112
 a46 := Tryz.isAgg112
 z46 := Tryz.sizeOf112
 v46 := Tryz.zeroValue112
 t105 := Tryz.underlying216
 a105 := Tryz.isAgg216
 z105 := Tryz.sizeOf216
 v105 := Tryz.zeroValue216
 t116 := Tryz.underlying189
 a116 := Tryz.isAgg189
 z116 := Tryz.sizeOf189
 t117 := Tryz.underlying190
 a117 := Tryz.isAgg190
 z117 := Tryz.sizeOf190
 v117 := Tryz.zeroValue190
 t119 := Tryz.underlying130
 a119 := Tryz.isAgg130
 z119 := Tryz.sizeOf130
 t124 := Tryz.underlying193
 a124 := Tryz.isAgg193
 z124 := Tryz.sizeOf193
 v124 := Tryz.zeroValue193
 t138 := Tryz.underlying221
 a138 := Tryz.isAgg221
 z138 := Tryz.sizeOf221
 v138 := Tryz.zeroValue221
 t139 := Tryz.underlying222
 a139 := Tryz.isAgg222
 z139 := Tryz.sizeOf222
 v139 := Tryz.zeroValue222
 g3 := by kernel_rfl
 g4 := by kernel_rfl }
def Tryz.lays137_ren : Go.Shelf.Ren := ⟨fun | 137 => 82 | 217 => 110 | 266 => 133 | n => n, fun | 9 => 9 | 5 => 5 | 3 => 3 | n => n, fun | n => n⟩
theorem Tryz.lays137 : Go.Proofs.Lays.n137 Tryz.prog Tryz.lays137_ren := {
 mixed := by kernel_rfl
 f137 := Tryz.func82.trans (congrArg some (by kernel_rfl))
 f217 := Tryz.func110.trans (congrArg some (by kernel_rfl))
 f266 := Tryz.func133.trans (congrArg some (by kernel_rfl))
 t3 := Tryz.underlying3
 a3 := Tryz.isAgg3
 z3 := Tryz.sizeOf3
 v3 := Tryz.zeroValue3
 t5 := Tryz.underlying5
 a5 := Tryz.isAgg5
 z5 := Tryz.sizeOf5
 v5 := Tryz.zeroValue5
 t9 := Tryz.underlying9
 a9 := Tryz.isAgg9
 z9 := Tryz.sizeOf9
 v9 := Tryz.zeroValue9 }
open Go.RowKit in
/-- strings.IndexByte: "IndexByte returns the index of the first instance of c in s, or -1 if c is not present in s.": IT RETURNS 'Lib.indexByte s c'; the world is as it was. (LAID: no walk: one application.) -/
theorem Tryz.strings_IndexByte (s : ByteArray) (c : Int) (w : World) :
  Calls Tryz.prog 82 #[.string s, .int .u8 c] w fun e w' => e = .returned (.int .i64 (Lib.indexByte s.data.toList c.toNat.toUInt8)) ∧ w' = w := Any.strings_IndexByte Tryz.lays137 s c w
open Go.RowKit in
/-- (*strings.Builder).String: "String returns the accumulated string.": WHATEVER THE BUILDER HOLDS; THE FORM '_k': OVER 'Lib.IsBuilderF' (a builder that 'String()' may have read), AND WITH THE FRAME THAT REACHES ABOVE THE BUILDER: 'Lib.OthersKept': every block that is not b and is no row of uint8's stands as it stood: the iterator of a range among them. (LAID: no walk: one application.) -/
theorem Tryz.Builder_String_any_k (B b : Nat) (l : List UInt8) (w : World) (h : Lib.IsBuilderF 80 5 B b (Lib.byteCells l) w) (hBw : B ≤ w.heap.size) :
  Calls Tryz.prog 43 #[.pointer (some ⟨b, 0, none⟩)] w fun e w' => e = .returned (.string ⟨l.toArray⟩) ∧ (Lib.IsBuilderF 80 5 B b (Lib.byteCells l) w' ∧ Below B w w' ∧ Lib.OthersKept 5 (some b) w w') := Any.Builder_String_any_k Tryz.lays169 Tryz.Builder_Extra_169 B b l w h hBw
def Tryz.lays172_ren : Go.Shelf.Ren := ⟨fun | 172 => 76 | 244 => 108 | 245 => 109 | 247 => 128 | 279 => 129 | 280 => 130 | 281 => 131 | 282 => 132 | 287 => 147 | 316 => 148 | 171 => 35 | 205 => 149 | 321 => 159 | 322 => 160 | 243 => 44 | 246 => 71 | 283 => 100 | 284 => 101 | 285 => 102 | 286 => 103 | 129 => 119 | 317 => 118 | 318 => 120 | 319 => 121 | 320 => 122 | 337 => 139 | 338 => 140 | n => n, fun | 9 => 9 | 3 => 3 | 75 => 83 | 76 => 84 | 4 => 4 | 5 => 5 | 167 => 155 | 37 => 78 | 0 => 0 | 85 => 137 | 2 => 2 | 168 => 156 | 53 => 125 | 175 => 181 | 46 => 112 | 210 => 184 | 127 => 99 | 145 => 214 | 143 => 212 | 21 => 21 | 171 => 124 | 173 => 128 | 212 => 144 | 51 => 145 | 20 => 20 | 213 => 146 | 232 => 205 | 233 => 206 | 80 => 68 | n => n, fun | 15 => 5 | 16 => 1 | 17 => 3 | 18 => 6 | 19 => 7 | n => n⟩
theorem Tryz.lays172 : Go.Proofs.Lays.n172 Tryz.prog Tryz.lays172_ren := {
 mixed := by kernel_rfl
 f129 := Tryz.func119.trans (congrArg some (by kernel_rfl))
 f171 := Tryz.func35.trans (congrArg some (by kernel_rfl))
 f172 := Tryz.func76.trans (congrArg some (by kernel_rfl))
 f205 := Tryz.func149.trans (congrArg some (by kernel_rfl))
 f243 := Tryz.func44.trans (congrArg some (by kernel_rfl))
 f244 := Tryz.func108.trans (congrArg some (by kernel_rfl))
 f245 := Tryz.func109.trans (congrArg some (by kernel_rfl))
 f246 := Tryz.func71.trans (congrArg some (by kernel_rfl))
 f247 := Tryz.func128.trans (congrArg some (by kernel_rfl))
 f279 := Tryz.func129.trans (congrArg some (by kernel_rfl))
 f280 := Tryz.func130.trans (congrArg some (by kernel_rfl))
 f281 := Tryz.func131.trans (congrArg some (by kernel_rfl))
 f282 := Tryz.func132.trans (congrArg some (by kernel_rfl))
 f283 := Tryz.func100.trans (congrArg some (by kernel_rfl))
 f284 := Tryz.func101.trans (congrArg some (by kernel_rfl))
 f285 := Tryz.func102.trans (congrArg some (by kernel_rfl))
 f286 := Tryz.func103.trans (congrArg some (by kernel_rfl))
 f287 := Tryz.func147.trans (congrArg some (by kernel_rfl))
 f316 := Tryz.func148.trans (congrArg some (by kernel_rfl))
 f317 := Tryz.func118.trans (congrArg some (by kernel_rfl))
 f318 := Tryz.func120.trans (congrArg some (by kernel_rfl))
 f319 := Tryz.func121.trans (congrArg some (by kernel_rfl))
 f320 := Tryz.func122.trans (congrArg some (by kernel_rfl))
 f321 := Tryz.func159.trans (congrArg some (by kernel_rfl))
 f322 := Tryz.func160.trans (congrArg some (by kernel_rfl))
 f337 := Tryz.func139.trans (congrArg some (by kernel_rfl))
 f338 := Tryz.func140.trans (congrArg some (by kernel_rfl))
 t0 := Tryz.underlying0
 a0 := Tryz.isAgg0
 z0 := Tryz.sizeOf0
 v0 := Tryz.zeroValue0
 t2 := Tryz.underlying2
 a2 := Tryz.isAgg2
 z2 := Tryz.sizeOf2
 v2 := Tryz.zeroValue2
 t3 := Tryz.underlying3
 a3 := Tryz.isAgg3
 z3 := Tryz.sizeOf3
 v3 := Tryz.zeroValue3
 t4 := Tryz.underlying4
 a4 := Tryz.isAgg4
 z4 := Tryz.sizeOf4
 v4 := Tryz.zeroValue4
 t5 := Tryz.underlying5
 a5 := Tryz.isAgg5
 z5 := Tryz.sizeOf5
 v5 := Tryz.zeroValue5
 t9 := Tryz.underlying9
 a9 := Tryz.isAgg9
 z9 := Tryz.sizeOf9
 v9 := Tryz.zeroValue9
 t20 := Tryz.underlying20
 a20 := Tryz.isAgg20
 z20 := Tryz.sizeOf20
 v20 := Tryz.zeroValue20
 t21 := Tryz.underlying21
 a21 := Tryz.isAgg21
 z21 := Tryz.sizeOf21
 v21 := Tryz.zeroValue21
 t37 := Tryz.underlying78
 a37 := Tryz.isAgg78
 z37 := Tryz.sizeOf78
 v37 := Tryz.zeroValue78
 t46 := Tryz.underlying112
 a46 := Tryz.isAgg112
 z46 := Tryz.sizeOf112
 v46 := Tryz.zeroValue112
 t51 := Tryz.underlying145
 a51 := Tryz.isAgg145
 z51 := Tryz.sizeOf145
 v51 := Tryz.zeroValue145
 t53 := Tryz.underlying125
 a53 := Tryz.isAgg125
 z53 := Tryz.sizeOf125
 v53 := Tryz.zeroValue125
 t75 := Tryz.underlying83
 a75 := Tryz.isAgg83
 z75 := Tryz.sizeOf83
 v75 := Tryz.zeroValue83
 t76 := Tryz.underlying84
 a76 := Tryz.isAgg84
 z76 := Tryz.sizeOf84
 v76 := Tryz.zeroValue84
 t85 := Tryz.underlying137
 a85 := Tryz.isAgg137
 z85 := Tryz.sizeOf137
 v85 := Tryz.zeroValue137
 t127 := Tryz.underlying99
 a127 := Tryz.isAgg99
 z127 := Tryz.sizeOf99
 v127 := Tryz.zeroValue99
 t143 := Tryz.underlying212
 a143 := Tryz.isAgg212
 z143 := Tryz.sizeOf212
 v143 := Tryz.zeroValue212
 t145 := Tryz.underlying214
 a145 := Tryz.isAgg214
 z145 := Tryz.sizeOf214
 v145 := Tryz.zeroValue214
 t167 := Tryz.underlying155
 a167 := Tryz.isAgg155
 z167 := Tryz.sizeOf155
 v167 := Tryz.zeroValue155
 t168 := Tryz.underlying156
 a168 := Tryz.isAgg156
 z168 := Tryz.sizeOf156
 v168 := Tryz.zeroValue156
 t171 := Tryz.underlying124
 a171 := Tryz.isAgg124
 z171 := Tryz.sizeOf124
 v171 := Tryz.zeroValue124
 t173 := Tryz.underlying128
 a173 := Tryz.isAgg128
 z173 := Tryz.sizeOf128
 v173 := Tryz.zeroValue128
 t175 := Tryz.underlying181
 a175 := Tryz.isAgg181
 z175 := Tryz.sizeOf181
 v175 := Tryz.zeroValue181
 t210 := Tryz.underlying184
 a210 := Tryz.isAgg184
 z210 := Tryz.sizeOf184
 v210 := Tryz.zeroValue184
 t212 := Tryz.underlying144
 a212 := Tryz.isAgg144
 z212 := Tryz.sizeOf144
 v212 := Tryz.zeroValue144
 t213 := Tryz.underlying146
 a213 := Tryz.isAgg146
 z213 := Tryz.sizeOf146
 t232 := Tryz.underlying205
 a232 := Tryz.isAgg205
 z232 := Tryz.sizeOf205
 v232 := Tryz.zeroValue205
 t233 := Tryz.underlying206
 a233 := Tryz.isAgg206
 z233 := Tryz.sizeOf206
 v233 := Tryz.zeroValue206
 g15 := by kernel_rfl
 g16 := by kernel_rfl
 g17 := by kernel_rfl
 g18 := by kernel_rfl
 g19 := by kernel_rfl }
open Go.RowKit in
/-- strconv.Atoi: "Atoi is equivalent to ParseInt(s, 10, 0), converted to type int.": AT A DECIMAL NUMERAL OF AT MOST 18 BYTES: its value, and a nil error. The world behind the call: the one new row that the library's '[]byte(s)' lays. (LAID: no walk: one application.) -/
theorem Tryz.strconv_Atoi (s : ByteArray) (n : Int) (hl : s.size ≤ 18) (h : Lib.atoi s.data.toList = some n) (w : World) :
  Calls Tryz.prog 76 #[.string s] w fun e w' => e = .returned (.tuple #[.int .i64 n, .nilIface]) ∧ ∃ t, w' = Lib.bytesWorld w 5 t := Any.strconv_Atoi Tryz.lays172 s n hl h w
def Tryz.laysC174_ren : Go.Shelf.Ren := ⟨fun | 174 => 115 | 247 => 128 | 245 => 109 | 287 => 147 | 279 => 129 | 280 => 130 | 281 => 131 | 282 => 132 | 321 => 159 | 322 => 160 | 316 => 148 | 171 => 35 | 205 => 149 | 243 => 44 | 246 => 71 | 283 => 100 | 284 => 101 | 285 => 102 | 286 => 103 | 129 => 119 | 317 => 118 | 318 => 120 | 319 => 121 | 320 => 122 | 337 => 139 | 338 => 140 | n => n, fun | 9 => 9 | 3 => 3 | 2 => 2 | 75 => 83 | 85 => 137 | 4 => 4 | 167 => 155 | 5 => 5 | 53 => 125 | 175 => 181 | 46 => 112 | 168 => 156 | 37 => 78 | 0 => 0 | 210 => 184 | 21 => 21 | 127 => 99 | 145 => 214 | 143 => 212 | 171 => 124 | 173 => 128 | 212 => 144 | 51 => 145 | 20 => 20 | 213 => 146 | 232 => 205 | 233 => 206 | 80 => 68 | n => n, fun | 15 => 5 | 16 => 1 | 17 => 3 | 18 => 6 | 19 => 7 | n => n⟩
theorem Tryz.laysC174 : Go.Proofs.LaysC.n174 Tryz.prog Tryz.laysC174_ren := {
 mixed := by kernel_rfl
 f129 := Tryz.func119.trans (congrArg some (by kernel_rfl))
 f171 := Tryz.func35.trans (congrArg some (by kernel_rfl))
 f174 := Tryz.func115.trans (congrArg some (by kernel_rfl))
 f205 := Tryz.func149.trans (congrArg some (by kernel_rfl))
 f243 := Tryz.func44.trans (congrArg some (by kernel_rfl))
 f245 := Tryz.func109.trans (congrArg some (by kernel_rfl))
 f246 := Tryz.func71.trans (congrArg some (by kernel_rfl))
 f247 := Tryz.func128.trans (congrArg some (by kernel_rfl))
 f279 := Tryz.func129.trans (congrArg some (by kernel_rfl))
 f280 := Tryz.func130.trans (congrArg some (by kernel_rfl))
 f281 := Tryz.func131.trans (congrArg some (by kernel_rfl))
 f282 := Tryz.func132.trans (congrArg some (by kernel_rfl))
 f283 := Tryz.func100.trans (congrArg some (by kernel_rfl))
 f284 := Tryz.func101.trans (congrArg some (by kernel_rfl))
 f285 := Tryz.func102.trans (congrArg some (by kernel_rfl))
 f286 := Tryz.func103.trans (congrArg some (by kernel_rfl))
 f287 := Tryz.func147.trans (congrArg some (by kernel_rfl))
 f316 := Tryz.func148.trans (congrArg some (by kernel_rfl))
 f317 := Tryz.func118.trans (congrArg some (by kernel_rfl))
 f318 := Tryz.func120.trans (congrArg some (by kernel_rfl))
 f319 := Tryz.func121.trans (congrArg some (by kernel_rfl))
 f320 := Tryz.func122.trans (congrArg some (by kernel_rfl))
 f321 := Tryz.func159.trans (congrArg some (by kernel_rfl))
 f322 := Tryz.func160.trans (congrArg some (by kernel_rfl))
 f337 := Tryz.func139.trans (congrArg some (by kernel_rfl))
 f338 := Tryz.func140.trans (congrArg some (by kernel_rfl))
 t0 := Tryz.underlying0
 a0 := Tryz.isAgg0
 z0 := Tryz.sizeOf0
 v0 := Tryz.zeroValue0
 t2 := Tryz.underlying2
 a2 := Tryz.isAgg2
 z2 := Tryz.sizeOf2
 v2 := Tryz.zeroValue2
 t3 := Tryz.underlying3
 a3 := Tryz.isAgg3
 z3 := Tryz.sizeOf3
 v3 := Tryz.zeroValue3
 t4 := Tryz.underlying4
 a4 := Tryz.isAgg4
 z4 := Tryz.sizeOf4
 v4 := Tryz.zeroValue4
 t5 := Tryz.underlying5
 a5 := Tryz.isAgg5
 z5 := Tryz.sizeOf5
 v5 := Tryz.zeroValue5
 t9 := Tryz.underlying9
 a9 := Tryz.isAgg9
 z9 := Tryz.sizeOf9
 v9 := Tryz.zeroValue9
 t20 := Tryz.underlying20
 a20 := Tryz.isAgg20
 z20 := Tryz.sizeOf20
 v20 := Tryz.zeroValue20
 t21 := Tryz.underlying21
 a21 := Tryz.isAgg21
 z21 := Tryz.sizeOf21
 v21 := Tryz.zeroValue21
 t37 := Tryz.underlying78
 a37 := Tryz.isAgg78
 z37 := Tryz.sizeOf78
 v37 := Tryz.zeroValue78
 t46 := Tryz.underlying112
 a46 := Tryz.isAgg112
 z46 := Tryz.sizeOf112
 v46 := Tryz.zeroValue112
 t51 := Tryz.underlying145
 a51 := Tryz.isAgg145
 z51 := Tryz.sizeOf145
 v51 := Tryz.zeroValue145
 t53 := Tryz.underlying125
 a53 := Tryz.isAgg125
 z53 := Tryz.sizeOf125
 v53 := Tryz.zeroValue125
 t75 := Tryz.underlying83
 a75 := Tryz.isAgg83
 z75 := Tryz.sizeOf83
 v75 := Tryz.zeroValue83
 t85 := Tryz.underlying137
 a85 := Tryz.isAgg137
 z85 := Tryz.sizeOf137
 v85 := Tryz.zeroValue137
 t127 := Tryz.underlying99
 a127 := Tryz.isAgg99
 z127 := Tryz.sizeOf99
 v127 := Tryz.zeroValue99
 t143 := Tryz.underlying212
 a143 := Tryz.isAgg212
 z143 := Tryz.sizeOf212
 v143 := Tryz.zeroValue212
 t145 := Tryz.underlying214
 a145 := Tryz.isAgg214
 z145 := Tryz.sizeOf214
 v145 := Tryz.zeroValue214
 t167 := Tryz.underlying155
 a167 := Tryz.isAgg155
 z167 := Tryz.sizeOf155
 v167 := Tryz.zeroValue155
 t168 := Tryz.underlying156
 a168 := Tryz.isAgg156
 z168 := Tryz.sizeOf156
 v168 := Tryz.zeroValue156
 t171 := Tryz.underlying124
 a171 := Tryz.isAgg124
 z171 := Tryz.sizeOf124
 v171 := Tryz.zeroValue124
 t173 := Tryz.underlying128
 a173 := Tryz.isAgg128
 z173 := Tryz.sizeOf128
 v173 := Tryz.zeroValue128
 t175 := Tryz.underlying181
 a175 := Tryz.isAgg181
 z175 := Tryz.sizeOf181
 v175 := Tryz.zeroValue181
 t210 := Tryz.underlying184
 a210 := Tryz.isAgg184
 z210 := Tryz.sizeOf184
 v210 := Tryz.zeroValue184
 t212 := Tryz.underlying144
 a212 := Tryz.isAgg144
 z212 := Tryz.sizeOf144
 v212 := Tryz.zeroValue144
 t213 := Tryz.underlying146
 a213 := Tryz.isAgg146
 z213 := Tryz.sizeOf146
 t232 := Tryz.underlying205
 a232 := Tryz.isAgg205
 z232 := Tryz.sizeOf205
 v232 := Tryz.zeroValue205
 t233 := Tryz.underlying206
 a233 := Tryz.isAgg206
 z233 := Tryz.sizeOf206
 v233 := Tryz.zeroValue206
 g15 := by kernel_rfl
 g16 := by kernel_rfl
 g17 := by kernel_rfl
 g18 := by kernel_rfl
 g19 := by kernel_rfl
 t80 := Tryz.underlying68
 a80 := Tryz.isAgg68
 z80 := Tryz.sizeOf68
 v80 := Tryz.zeroValue68
 i0 := by kernel_rfl
 i2 := by kernel_rfl
 i3 := by kernel_rfl
 i4 := by kernel_rfl
 i5 := by kernel_rfl
 i9 := by kernel_rfl
 i20 := by kernel_rfl
 i21 := by kernel_rfl
 i37 := by kernel_rfl
 i46 := by kernel_rfl
 i51 := by kernel_rfl
 i53 := by kernel_rfl
 i75 := by kernel_rfl
 i80 := by kernel_rfl
 i85 := by kernel_rfl
 i127 := by kernel_rfl
 i143 := by kernel_rfl
 i145 := by kernel_rfl
 i167 := by kernel_rfl
 i168 := by kernel_rfl
 i171 := by kernel_rfl
 i173 := by kernel_rfl
 i175 := by kernel_rfl
 i210 := by kernel_rfl
 i212 := by kernel_rfl
 i232 := by kernel_rfl
 i233 := by kernel_rfl
 m15 := by kernel_rfl
 m16 := by kernel_rfl
 m17 := by kernel_rfl
 m18 := by kernel_rfl
 m19 := by kernel_rfl
 c0 := by kernel_rfl
 c2 := by kernel_rfl
 c3 := by kernel_rfl
 c4 := by kernel_rfl
 c5 := by kernel_rfl
 c9 := by kernel_rfl
 c20 := by kernel_rfl
 c21 := by kernel_rfl
 c37 := by kernel_rfl
 c46 := by kernel_rfl
 c51 := by kernel_rfl
 c53 := by kernel_rfl
 c75 := by kernel_rfl
 c80 := by kernel_rfl
 c85 := by kernel_rfl
 c127 := by kernel_rfl
 c143 := by kernel_rfl
 c145 := by kernel_rfl
 c167 := by kernel_rfl
 c168 := by kernel_rfl
 c171 := by kernel_rfl
 c173 := by kernel_rfl
 c175 := by kernel_rfl
 c210 := by kernel_rfl
 c212 := by kernel_rfl
 c213 := by kernel_rfl
 c232 := by kernel_rfl
 c233 := by kernel_rfl }
open Go.RowKit in
/-- strconv.ParseInt(s, 10, 32), AT EVERY STRING THAT SPELLS AN int32 ('Lib.parseIntB 32 s.data.toList = .ok v'): v, AND NO ERROR. (LAID: no walk: one application.) -/
theorem Tryz.strconv_ParseInt_10_at32_ok (s : ByteArray) (hmax : s.size ≤ 9223372036854775806) (v : Int) (h : Lib.parseIntB 32 s.data.toList = .ok v) (w : World) :
  Calls Tryz.prog 115 #[.string s, .int .i64 10, .int .i64 32] w fun e w' => e = .returned (.tuple #[.int .i64 v, .nilIface]) ∧ (w' = w ∨ ∃ t, w' = Lib.bytesWorld w 5 t) := Any.strconv_ParseInt_10_at32_ok Tryz.laysC174 s hmax v h w
open Go.RowKit in
/-- strconv.ParseInt(s, 10, 32), AT EVERY NUMERAL THAT NO int32 HOLDS: THE GREATEST OR THE LEAST int32, BY THE SIGN ('Lib.intSat 32'), AND AN ERROR THAT IS NOT nil: a *NumError in a new block N: {Func: "ParseInt", Num: s's bytes, Err: what the variable ErrRange holds}. Of what was there nothing has turned. (LAID: no walk: one application.) -/
theorem Tryz.strconv_ParseInt_10_at32_range (s : ByteArray) (hlim : s.size ≤ 281474976710656) (h : Lib.parseIntB 32 s.data.toList = .range) (ev : Value) (w : World) (hv : w.cell? ⟨1, 0, none⟩ = some ev) (hev : ev = .nilIface ∨ ∃ te pe, ev = .iface te pe) :
  Calls Tryz.prog 115 #[.string s, .int .i64 10, .int .i64 32] w fun e w' => ∃ N, e = .returned (.tuple #[.int .i64 (Lib.intSat 32 s.data.toList), .iface 156 (.pointer (some ⟨N, 0, none⟩))]) ∧ w.heap.size ≤ N ∧ w'.heap[N]? = some (.cells #[.string ⟨#[80, 97, 114, 115, 101, 73, 110, 116]⟩, .string s, ev] 184 (0, 0)) ∧ Below w.heap.size w w' := Any.strconv_ParseInt_10_at32_range Tryz.laysC174 s hlim h ev w hv hev
def Tryz.lays145_ren : Go.Shelf.Ren := ⟨fun | 145 => 75 | 220 => 107 | 219 => 127 | 217 => 110 | 225 => 144 | 224 => 145 | 267 => 146 | 266 => 133 | 314 => 158 | n => n, fun | 9 => 9 | 4 => 4 | 59 => 103 | 3 => 3 | 5 => 5 | 46 => 112 | 146 => 209 | 51 => 145 | n => n, fun | 1 => 2 | n => n⟩
theorem Tryz.lays145 : Go.Proofs.Lays.n145 Tryz.prog Tryz.lays145_ren := {
 mixed := by kernel_rfl
 f145 := Tryz.func75.trans (congrArg some (by kernel_rfl))
 f217 := Tryz.func110.trans (congrArg some (by kernel_rfl))
 f219 := Tryz.func127.trans (congrArg some (by kernel_rfl))
 f220 := Tryz.func107.trans (congrArg some (by kernel_rfl))
 f224 := Tryz.func145.trans (congrArg some (by kernel_rfl))
 f225 := Tryz.func144.trans (congrArg some (by kernel_rfl))
 f266 := Tryz.func133.trans (congrArg some (by kernel_rfl))
 f267 := Tryz.func146.trans (congrArg some (by kernel_rfl))
 f314 := Tryz.func158.trans (congrArg some (by kernel_rfl))
 t3 := Tryz.underlying3
 a3 := Tryz.isAgg3
 z3 := Tryz.sizeOf3
 v3 := Tryz.zeroValue3
 t4 := Tryz.underlying4
 a4 := Tryz.isAgg4
 z4 := Tryz.sizeOf4
 v4 := Tryz.zeroValue4
 t5 := Tryz.underlying5
 a5 := Tryz.isAgg5
 z5 := Tryz.sizeOf5
 v5 := Tryz.zeroValue5
 t9 := Tryz.underlying9
 a9 := Tryz.isAgg9
 z9 := Tryz.sizeOf9
 v9 := Tryz.zeroValue9
 t46 := Tryz.underlying112
 a46 := Tryz.isAgg112
 z46 := Tryz.sizeOf112
 v46 := Tryz.zeroValue112
 t51 := Tryz.underlying145
 a51 := Tryz.isAgg145
 z51 := Tryz.sizeOf145
 v51 := Tryz.zeroValue145
 t59 := Tryz.underlying103
 a59 := Tryz.isAgg103
 z59 := Tryz.sizeOf103
 v59 := Tryz.zeroValue103
 t146 := Tryz.underlying209
 a146 := Tryz.isAgg209
 z146 := Tryz.sizeOf209
 v146 := Tryz.zeroValue209
 g1 := by kernel_rfl }
open Go.RowKit Go.Lib in
/-- strings.Cut: "Cut slices s around the first instance of sep, returning the text before and after sep. The found result reports whether sep appears in s. If sep does not appear in s, cut returns s, "", false.": IT RETURNS 'Lib.cut s sep'; the world is as it was but for the count of draws. (LAID: no walk: one application.) -/
theorem Tryz.strings_Cut (s sep : ByteArray) (m : Int) (w : World) (hs : s.size < 4294967281) (hm : w.cell? ⟨2, 0, none⟩ = some (.int .i64 m)) :
  Calls Tryz.prog 75 #[.string s, .string sep] w fun e w' => e = .returned (.tuple #[.string ⟨(Lib.cut s.data.toList sep.data.toList).1.toArray⟩, .string ⟨(Lib.cut s.data.toList sep.data.toList).2.1.toArray⟩, .bool (Lib.cut s.data.toList sep.data.toList).2.2]) ∧ ∃ n, w' = w.drewN n := Any.strings_Cut Tryz.lays145 s sep m w hs hm
def Tryz.lays157_ren : Go.Shelf.Ren := ⟨fun | 157 => 74 | 229 => 105 | 199 => 106 | 261 => 126 | 311 => 142 | 312 => 143 | n => n, fun | 9 => 9 | 31 => 25 | 3 => 3 | 5 => 5 | 4 => 4 | 119 => 130 | 0 => 0 | 40 => 132 | 152 => 149 | 21 => 21 | 154 => 151 | 51 => 145 | 141 => 153 | 196 => 173 | 193 => 170 | 198 => 176 | 49 => 174 | 194 => 171 | 201 => 179 | 226 => 207 | 46 => 112 | 227 => 208 | n => n, fun | 0 => 0 | 6 => 4 | n => n⟩
theorem Tryz.lays157 : Go.Proofs.Lays.n157 Tryz.prog Tryz.lays157_ren := {
 mixed := by kernel_rfl
 f157 := Tryz.func74.trans (congrArg some (by kernel_rfl))
 f199 := Tryz.func106.trans (congrArg some (by kernel_rfl))
 f229 := Tryz.func105.trans (congrArg some (by kernel_rfl))
 f261 := Tryz.func126.trans (congrArg some (by kernel_rfl))
 f311 := Tryz.func142.trans (congrArg some (by kernel_rfl))
 f312 := Tryz.func143.trans (congrArg some (by kernel_rfl))
 t0 := Tryz.underlying0
 a0 := Tryz.isAgg0
 z0 := Tryz.sizeOf0
 v0 := Tryz.zeroValue0
 t3 := Tryz.underlying3
 a3 := Tryz.isAgg3
 z3 := Tryz.sizeOf3
 v3 := Tryz.zeroValue3
 t4 := Tryz.underlying4
 a4 := Tryz.isAgg4
 z4 := Tryz.sizeOf4
 v4 := Tryz.zeroValue4
 t5 := Tryz.underlying5
 a5 := Tryz.isAgg5
 z5 := Tryz.sizeOf5
 v5 := Tryz.zeroValue5
 t9 := Tryz.underlying9
 a9 := Tryz.isAgg9
 z9 := Tryz.sizeOf9
 v9 := Tryz.zeroValue9
 t21 := Tryz.underlying21
 a21 := Tryz.isAgg21
 z21 := Tryz.sizeOf21
 v21 := Tryz.zeroValue21
 t31 := Tryz.underlying25
 a31 := Tryz.isAgg25
 z31 := Tryz.sizeOf25
 v31 := Tryz.zeroValue25
 t40 := Tryz.underlying132
 a40 := Tryz.isAgg132
 z40 := Tryz.sizeOf132
 v40 := Tryz.zeroValue132
 t46 := Tryz.underlying112
 a46 := Tryz.isAgg112
 z46 := Tryz.sizeOf112
 v46 := Tryz.zeroValue112
 t49 := Tryz.underlying174
 a49 := Tryz.isAgg174
 z49 := Tryz.sizeOf174
 v49 := Tryz.zeroValue174
 t51 := Tryz.underlying145
 a51 := Tryz.isAgg145
 z51 := Tryz.sizeOf145
 v51 := Tryz.zeroValue145
 t119 := Tryz.underlying130
 a119 := Tryz.isAgg130
 z119 := Tryz.sizeOf130
 t141 := Tryz.underlying153
 a141 := Tryz.isAgg153
 z141 := Tryz.sizeOf153
 v141 := Tryz.zeroValue153
 t152 := Tryz.underlying149
 a152 := Tryz.isAgg149
 z152 := Tryz.sizeOf149
 v152 := Tryz.zeroValue149
 t154 := Tryz.underlying151
 a154 := Tryz.isAgg151
 z154 := Tryz.sizeOf151
 v154 := Tryz.zeroValue151
 t193 := Tryz.underlying170
 a193 := Tryz.isAgg170
 z193 := Tryz.sizeOf170
 v193 := Tryz.zeroValue170
 t194 := Tryz.underlying171
 a194 := Tryz.isAgg171
 z194 := Tryz.sizeOf171
 v194 := Tryz.zeroValue171
 t196 := Tryz.underlying173
 a196 := Tryz.isAgg173
 z196 := Tryz.sizeOf173
 v196 := Tryz.zeroValue173
 t198 := Tryz.underlying176
 a198 := Tryz.isAgg176
 z198 := Tryz.sizeOf176
 v198 := Tryz.zeroValue176
 t201 := Tryz.underlying179
 a201 := Tryz.isAgg179
 z201 := Tryz.sizeOf179
 v201 := Tryz.zeroValue179
 t226 := Tryz.underlying207
 a226 := Tryz.isAgg207
 z226 := Tryz.sizeOf207
 v226 := Tryz.zeroValue207
 t227 := Tryz.underlying208
 a227 := Tryz.isAgg208
 z227 := Tryz.sizeOf208
 v227 := Tryz.zeroValue208
 g0 := by kernel_rfl
 g6 := by kernel_rfl }
open Go.RowKit Go.Lib in
/-- strings.Fields, the table by 'Lib.TabIs' (as strings.TrimSpace's contract). 'hg': the table's number, by its name: at a dump 'by kernel_rfl'. (LAID: no walk: one application.) -/
theorem Tryz.strings_Fields (s : ByteArray) (w : World) (hs : s.size < 4294967281) (hascii : ∀ (j : Nat) b, s.data.toList[j]? = some b → b.toNat < 128) (htab : Lib.TabIs Tryz.prog w "strings.asciiSpace" .u8 Lib.asciiSpaceTab) :
  Calls Tryz.prog 74 #[.string s] w fun e w' =>
   e = .returned (.slice (some ⟨w.heap.size, 0, none⟩) (Lib.fields s.data.toList).length (Lib.fields s.data.toList).length) ∧ w' = w.alloc (.cells ((Lib.fields s.data.toList).map fun l => Value.string ⟨l.toArray⟩).toArray 9) := Any.strings_Fields Tryz.lays157 (by kernel_rfl) (by kernel_rfl) s w hs hascii htab
def Tryz.laysM171_ren : Go.Shelf.Ren := ⟨fun | 171 => 35 | 243 => 44 | 246 => 71 | 283 => 100 | 284 => 101 | 285 => 102 | 286 => 103 | 129 => 119 | 317 => 118 | 318 => 120 | 319 => 121 | 320 => 122 | 337 => 139 | 338 => 140 | n => n, fun | 3 => 3 | 9 => 9 | 2 => 2 | 4 => 4 | 171 => 124 | 0 => 0 | 53 => 125 | 37 => 78 | 5 => 5 | 173 => 128 | 212 => 144 | 51 => 145 | 20 => 20 | 213 => 146 | 46 => 112 | 232 => 205 | 233 => 206 | n => n, fun | 17 => 3 | 18 => 6 | 19 => 7 | n => n⟩
theorem Tryz.laysM171 : Go.Proofs.LaysM.n171 Tryz.prog Tryz.laysM171_ren := {
 mixed := by kernel_rfl
 f129 := Tryz.func119.trans (congrArg some (by kernel_rfl))
 f171 := Tryz.func35.trans (congrArg some (by kernel_rfl))
 f243 := Tryz.func44.trans (congrArg some (by kernel_rfl))
 f246 := Tryz.func71.trans (congrArg some (by kernel_rfl))
 f283 := Tryz.func100.trans (congrArg some (by kernel_rfl))
 f284 := Tryz.func101.trans (congrArg some (by kernel_rfl))
 f285 := Tryz.func102.trans (congrArg some (by kernel_rfl))
 f286 := Tryz.func103.trans (congrArg some (by kernel_rfl))
 f317 := Tryz.func118.trans (congrArg some (by kernel_rfl))
 f318 := Tryz.func120.trans (congrArg some (by kernel_rfl))
 f319 := Tryz.func121.trans (congrArg some (by kernel_rfl))
 f320 := Tryz.func122.trans (congrArg some (by kernel_rfl))
 f337 := Tryz.func139.trans (congrArg some (by kernel_rfl))
 f338 := Tryz.func140.trans (congrArg some (by kernel_rfl))
 t0 := Tryz.underlying0
 a0 := Tryz.isAgg0
 z0 := Tryz.sizeOf0
 v0 := Tryz.zeroValue0
 t2 := Tryz.underlying2
 a2 := Tryz.isAgg2
 z2 := Tryz.sizeOf2
 v2 := Tryz.zeroValue2
 t3 := Tryz.underlying3
 a3 := Tryz.isAgg3
 z3 := Tryz.sizeOf3
 v3 := Tryz.zeroValue3
 t4 := Tryz.underlying4
 a4 := Tryz.isAgg4
 z4 := Tryz.sizeOf4
 v4 := Tryz.zeroValue4
 t5 := Tryz.underlying5
 a5 := Tryz.isAgg5
 z5 := Tryz.sizeOf5
 v5 := Tryz.zeroValue5
 t9 := Tryz.underlying9
 a9 := Tryz.isAgg9
 z9 := Tryz.sizeOf9
 v9 := Tryz.zeroValue9
 t20 := Tryz.underlying20
 a20 := Tryz.isAgg20
 z20 := Tryz.sizeOf20
 v20 := Tryz.zeroValue20
 t37 := Tryz.underlying78
 a37 := Tryz.isAgg78
 z37 := Tryz.sizeOf78
 v37 := Tryz.zeroValue78
 t46 := Tryz.underlying112
 a46 := Tryz.isAgg112
 z46 := Tryz.sizeOf112
 v46 := Tryz.zeroValue112
 t51 := Tryz.underlying145
 a51 := Tryz.isAgg145
 z51 := Tryz.sizeOf145
 v51 := Tryz.zeroValue145
 t53 := Tryz.underlying125
 a53 := Tryz.isAgg125
 z53 := Tryz.sizeOf125
 v53 := Tryz.zeroValue125
 t171 := Tryz.underlying124
 a171 := Tryz.isAgg124
 z171 := Tryz.sizeOf124
 v171 := Tryz.zeroValue124
 t173 := Tryz.underlying128
 a173 := Tryz.isAgg128
 z173 := Tryz.sizeOf128
 v173 := Tryz.zeroValue128
 t212 := Tryz.underlying144
 a212 := Tryz.isAgg144
 z212 := Tryz.sizeOf144
 v212 := Tryz.zeroValue144
 t213 := Tryz.underlying146
 a213 := Tryz.isAgg146
 z213 := Tryz.sizeOf146
 t232 := Tryz.underlying205
 a232 := Tryz.isAgg205
 z232 := Tryz.sizeOf205
 v232 := Tryz.zeroValue205
 t233 := Tryz.underlying206
 a233 := Tryz.isAgg206
 z233 := Tryz.sizeOf206
 v233 := Tryz.zeroValue206
 g17 := by kernel_rfl
 g18 := by kernel_rfl
 g19 := by kernel_rfl
 i0 := by kernel_rfl
 i2 := by kernel_rfl
 i3 := by kernel_rfl
 i4 := by kernel_rfl
 i5 := by kernel_rfl
 i9 := by kernel_rfl
 i20 := by kernel_rfl
 i37 := by kernel_rfl
 i46 := by kernel_rfl
 i51 := by kernel_rfl
 i53 := by kernel_rfl
 i171 := by kernel_rfl
 i173 := by kernel_rfl
 i212 := by kernel_rfl
 i232 := by kernel_rfl
 i233 := by kernel_rfl
 m17 := by kernel_rfl
 m18 := by kernel_rfl
 m19 := by kernel_rfl }
open Go.RowKit Go.Sort Go.Lib in
/-- strconv.Itoa: "Itoa is equivalent to FormatInt(int64(i), 10).": i's DECIMAL NUMERAL ('Lib.itoa': a '-' where i is negative, then the digits), FOR EVERY int. The world behind the call: the world before it, new blocks behind the heap (the library's 'var a [24]byte'), draws. (LAID: no walk: one application.) -/
theorem Tryz.strconv_Itoa (n : Int) (h0 : -9223372036854775808 ≤ n) (h1 : n ≤ 9223372036854775807) (w : World) (htab : Lib.TabIs Tryz.prog w "internal/strconv.uint64pow10" .u64 Lib.pow10Tab) :
  Calls Tryz.prog 35 #[.int .i64 n] w fun e w' => e = .returned (.string ⟨(Lib.itoa n).toArray⟩) ∧ ∃ k os, w' = grow (w.drewN k) os := Any.strconv_Itoa Tryz.laysM171 n h0 h1 w htab
def Tryz.lays107_ren : Go.Shelf.Ren := ⟨fun | 107 => 135 | 108 => 150 | n => n, fun | 28 => 140 | 3 => 3 | 4 => 4 | 0 => 0 | n => n, fun | n => n⟩
theorem Tryz.lays107 : Go.Proofs.Lays.n107 Tryz.prog Tryz.lays107_ren := {
 mixed := by kernel_rfl
 f107 := Tryz.func135.trans (congrArg some (by kernel_rfl))
 f108 := Tryz.func150.trans (congrArg some (by kernel_rfl))
 t0 := Tryz.underlying0
 a0 := Tryz.isAgg0
 z0 := Tryz.sizeOf0
 v0 := Tryz.zeroValue0
 t3 := Tryz.underlying3
 a3 := Tryz.isAgg3
 z3 := Tryz.sizeOf3
 v3 := Tryz.zeroValue3
 t4 := Tryz.underlying4
 a4 := Tryz.isAgg4
 z4 := Tryz.sizeOf4
 v4 := Tryz.zeroValue4
 t28 := Tryz.underlying140
 a28 := Tryz.isAgg140
 z28 := Tryz.sizeOf140
 v28 := Tryz.zeroValue140 }
open Go.Lib in
/-- slices.Contains at []int: "Contains reports whether v is present in s.": IT RETURNS 'elements.contains v'; the world is as it was. ITS CALLEE slices.Index IS MET BY ITS OWN CONTRACT OFF THE SHELF (lay that first): no loop is walked here. (LAID: no walk: one application.) -/
theorem Tryz.slices_Contains_int (b off n c : Nat) (zs : List Int) (x : Int) (w : World) (hz : n ≤ zs.length) (hbig : n ≤ 9223372036854775807) (hc : ∀ j, j < zs.length → w.cell? ⟨b, off + j, none⟩ = some (.int .i64 (zs.getD j 0))) :
  Calls Tryz.prog 135 #[.slice (some ⟨b, off, none⟩) n c, .int .i64 x] w fun e w' => e = .returned (.bool ((zs.take n).contains x)) ∧ w' = w := Any.slices_Contains_int Tryz.lays107 b off n c zs x w hz hbig hc
def Tryz.laysNm216_ren : Go.Shelf.Ren := ⟨fun | 16 => 27 | n => n, fun | 24 => 25 | 9 => 9 | 4 => 4 | n => n, fun | n => n⟩
theorem Tryz.laysNm216 : Go.Proofs.Lays2.n16 Tryz.prog Tryz.laysNm216_ren := {
 mixed := by kernel_rfl
 f16 := Tryz.func27.trans (congrArg some (by kernel_rfl))
 t4 := Tryz.underlying4
 a4 := Tryz.isAgg4
 z4 := Tryz.sizeOf4
 v4 := Tryz.zeroValue4
 t9 := Tryz.underlying9
 a9 := Tryz.isAgg9
 z9 := Tryz.sizeOf9
 v9 := Tryz.zeroValue9
 t24 := Tryz.underlying25
 a24 := Tryz.isAgg25
 z24 := Tryz.sizeOf25
 v24 := Tryz.zeroValue25
 i9 := by kernel_rfl }
open Go.RowKit Go.Lib in
/-- slices.Clone at []string: "Clone returns a copy of the slice. The elements are copied using assignment, so this is a shallow clone. The result may have additional unused capacity. The result preserves the nilness of s.": OF A SLICE THAT IS NOT nil IT RETURNS A SLICE THAT IS NOT nil, OF THE SAME ELEMENTS, IN MEMORY OF THE CALL's OWN: in the how-to's words (6f): 'w'.ownsRow B e 1 v' n cells': v' begins at the head of a row among the blocks from B on (B: the heap's size at the call), not frozen, whose first cells are the elements · 'Below B w w'': below B all is as it was. The capacity is whatever the run-time gives. 'zs': what the cells behind the slice's address hold; 'zs.take n': its elements. (LAID: no walk: one application.) -/
theorem Tryz.slices_Clone_string (b off n c : Nat) (zs : List ByteArray) (w : World) (hz : n ≤ zs.length) (hbig : n * 16 ≤ 140737488355328) (hc : ∀ j, j < zs.length → w.cell? ⟨b, off + j, none⟩ = some (.string (zs.getD j ByteArray.empty))) :
  Calls Tryz.prog 27 #[.slice (some ⟨b, off, none⟩) n c] w fun e w' => ∃ v', e = .returned v' ∧ w'.ownsRow w.heap.size 9 1 v' n ((zs.take n).map (Value.string)) ∧ v' ≠ .slice none 0 0 ∧ Below w.heap.size w w' := Any.slices_Clone_string Tryz.laysNm216 b off n c zs w hz hbig hc
end Go.Proofs
end
section
namespace Go.Proofs.YtdcldaknmenklaaGreatDoor.M
open Go.RowKit Go.Proofs.YtdcldaknmenklaaGreatDoorW.PrintWords Go.Proofs.YtdcldaknmenklaaGreatDoorW.PrintLast Go.Proofs.YtdcldaknmenklaaGreatDoorW.PrintMore
set_option linter.unusedVariables false
set_option linter.unusedSimpArgs false
def enOf (x : S32) : En := (x.f0, x.f1, x.f2)
def applyOut (x : Except (Nat × Int) St) : List ByteArray × Int × Int := match x with | .ok s => (s.1, 0, 0) | .error e => ([], (e.1 : Int), e.2)
def diff_Apply.f (l0 : List ByteArray) (l1 : List S32) : Option (List ByteArray × Int × Int) :=
 if l0.length = 256 then (if l1.length ≤ 1000000 then some (applyOut (runG (l0, -1) 0 (l1.map enOf))) else none) else some ([], 0, 11)
set_option maxRecDepth 100000 in
theorem says_int (n : Int) (s : ByteArray) (w : World) : Calls Tryz.prog 28 #[.agg #[.bool true, .int .i64 n, .string s]] w fun e w' => e = .returned (.iface 59 (.int .i64 n)) ∧ Below w.heap.size w w' := by
 have hu := Tryz.underlying32
 go_enter Tryz.func28, Tryz.ntmps28
 go_wp2
 go_ret
 exact ⟨rfl, below_alloc (Below.refl _ _) _⟩
set_option maxRecDepth 100000 in
theorem says_name (n : Int) (s : ByteArray) (w : World) : Calls Tryz.prog 28 #[.agg #[.bool false, .int .i64 n, .string s]] w fun e w' => e = .returned (.iface 60 (.string s)) ∧ Below w.heap.size w w' := by
 have hu := Tryz.underlying32
 go_enter Tryz.func28, Tryz.ntmps28
 go_wp2
 go_ret
 exact ⟨rfl, below_alloc (Below.refl _ _) _⟩
set_option maxHeartbeats 4000000 in
set_option maxRecDepth 1000000 in
theorem diff_Apply.calls (A0 : Option Addr) (c0 : Nat) (l0 : List ByteArray) (A1 : Option Addr) (c1 : Nat) (l1 : List S32) (r1 : List ByteArray) (r2 r3 : Int) (w : World)
  (hr0 : Kd.C Kd.string w A0 l0.length l0) (hc0 : l0.length ≤ c0) (hr1 : Kd.C k32 w A1 l1.length l1) (hc1 : l1.length ≤ c1) (h : diff_Apply.f l0 l1 = some (r1, r2, r3)) :
  Calls Tryz.prog 13 #[.slice A0 l0.length c0, .slice A1 l1.length c1] w fun e w' => ∃ v0_ : Value, e = .returned (.tuple #[v0_, .int .i64 r2, .int .i64 r3]) ∧ Kd.R Kd.string 9 w' w.heap.size (fun _ => True) v0_ r1 ∧ Below w.heap.size w w' := by
 have hu := Tryz.underlying32
 unfold diff_Apply.f at h
 by_cases h256 : l0.length = 256
 ·rw [if_pos h256] at h
  split at h
  case isFalse => cases h
  rename_i hlen
  have hR := Option.some.inj h
  clear h
  obtain ⟨b0, o0, rfl, hbk, hcell⟩ := strings_read hr0 (by omega)
  have HR1 := Aside0.mk hr1
  clear hr1
  have HR := Aside0.mk hR
  clear hR
  have hclone := Tryz.slices_Clone_string b0 o0 l0.length c0 l0 w (Nat.le_refl _) (by omega) (fun j hj => hcell j _ (by rw [List.getD_eq_getElem?_getD, List.getElem?_eq_getElem hj]; rfl))
  clear hcell hbk hr0
  rw [List.take_of_length_le (Nat.le_refl _), h256] at hclone
  rw [h256] at hc0 ⊢
  have H256 := Aside0.mk h256
  clear h256
  go_enter Tryz.func13, Tryz.ntmps13
  go_wp2_with (go_at_call 27; refine hclone.mono ?_)
  rintro e W1 ⟨v1, rfl, hown, -, hb1⟩
  clear hclone
  have hRw : Kd.R Kd.string 9 W1 w.heap.size (fun _ => True) v1 l0 := Kd.R_of_own (by rw [H256.out]; exact hown) (fun _ _ => trivial)
  obtain ⟨Ao, co, rfl⟩ := Kd.R_slice hRw
  rw [H256.out] at hRw ⊢
  have HRW := Aside0.mk hRw
  have HB1 := Aside0.mk hb1
  clear hRw hown hb1
  have hta1 : ∀ (v : Value) (W : World), (Instr.typeAssert (.iface 59 v) 57 59 true).run Tryz.prog W = .ok (.tuple #[v, .bool true]) W := fun v W => by rfl
  have hta2 : ∀ (v : Value) (W : World), (Instr.typeAssert (.iface 60 v) 57 59 true).run Tryz.prog W = .ok (.tuple #[.int .i64 0, .bool false]) W := fun v W => by rfl
  have hta3 : ∀ (v : Value) (W : World), (Instr.typeAssert (.iface 60 v) 57 60 true).run Tryz.prog W = .ok (.tuple #[v, .bool true]) W := fun v W => by rfl
  go_wp2
  go_loopw [8, 20] (fun v8 v20 wr => ∃ (k : Nat) (xs : List ByteArray) (nx : Int), k ≤ l1.length ∧ v8 = .int .i64 nx ∧ v20 = .int .i64 k ∧ xs.length = 256 ∧ -1 ≤ nx ∧ nx ≤ 256 ∧ Aside0 (runG (xs, nx) k ((l1.drop k).map enOf) = runG (l0, -1) 0 (l1.map enOf)) ∧ Aside0 (Kd.R Kd.string 9 wr w.heap.size (fun _ => True) (.slice Ao 256 co) xs) ∧ Aside0 (Below w.heap.size w wr)) (fun v8 v20 wr => l1.length - (intOf v20).toNat)
  case atStart =>
   exact ⟨0, l0, -1, Nat.zero_le _, rfl, rfl, H256.out, by omega, by omega, ⟨rfl⟩, HRW, HB1⟩
  case round =>
   obtain ⟨k, xs, nx, hk, rfl, rfl, hxl, hn0, hn1, HS, HO, HB⟩ := hrel
   clear HRW HB1
   by_cases hlt : k < l1.length
   ·have hdr : l1.drop k = l1[k] :: l1.drop (k + 1) := List.drop_eq_getElem_cons hlt
    have hS := HS.out
    rw [hdr, List.map_cons, runG] at hS
    clear HS
    have hrd : rd_T32 l1 (k : Int) = l1[k] := by
     unfold rd_T32
     rw [Int.toNat_natCast, List.getD_eq_getElem?_getD, List.getElem?_eq_getElem hlt]
     rfl
    obtain ⟨ad1, e1, hx0, hx1, hx2⟩ := at_T32 (Kd.C_below HR1.out HB.out) (k : Int) (by omega) (by omega)
    subst e1
    rw [hrd, Int.toNat_natCast] at hx0 hx1 hx2
    clear hrd hdr
    generalize l1[k] = x at hS hx0 hx1 hx2
    obtain ⟨xb, xn, xs0⟩ := x
    dsimp only at hx0 hx1 hx2
    have hlt2 : decide ((k : Int) < (l1.length : Int)) = true := decide_eq_true (by omega)
    cases xb with
    | true =>
     have hstep : stepG (xs, nx) (enOf ⟨true, xn, xs0⟩) = if xn < 0 ∨ 256 ≤ xn then .error 7 else .ok (xs, xn) := by unfold stepG enOf; rw [if_pos rfl]
     rw [hstep] at hS
     clear hstep
     by_cases hr : xn < 0 ∨ 256 ≤ xn
     ·rw [if_pos hr] at hS
      have hR := HR.out
      rw [← hS] at hR
      injection hR with e1 hR
      injection hR with e2 e3
      subst e1 e2 e3
      clear hS HR
      by_cases hn : xn < 0
      ·have d1 : decide (xn < 0) = true := decide_eq_true hn
       clear hr hn
       go_wp2_with (go_at_call 28; refine (says_int xn xs0 _).mono ?_; rintro e W2 ⟨rfl, hb2⟩; have HB2 := Aside0.mk (below_step (below_alloc HB.out _) hb2); have HO2 := Aside0.mk (Kd.R_below (Kd.R_alloc HO.out _) hb2); clear hb2)
       go_ret3
       exact ⟨_, rfl, Kd.R_nil _ _ _ _ _, HB2.out⟩
      ·have d1 : decide (xn < 0) = false := decide_eq_false hn
       have d2 : decide (256 ≤ xn) = true := decide_eq_true (by omega)
       clear hr hn
       go_wp2_with (go_at_call 28; refine (says_int xn xs0 _).mono ?_; rintro e W2 ⟨rfl, hb2⟩; have HB2 := Aside0.mk (below_step (below_alloc HB.out _) hb2); have HO2 := Aside0.mk (Kd.R_below (Kd.R_alloc HO.out _) hb2); clear hb2)
       go_ret3
       exact ⟨_, rfl, Kd.R_nil _ _ _ _ _, HB2.out⟩
     ·rw [if_neg hr] at hS
      have HS2 := Aside0.mk hS
      clear hS
      have d1 : decide (xn < 0) = false := decide_eq_false (by omega)
      have d2 : decide (256 ≤ xn) = false := decide_eq_false (by omega)
      go_wp2_with (go_at_call 28; refine (says_int xn xs0 _).mono ?_; rintro e W2 ⟨rfl, hb2⟩; have HB2 := Aside0.mk (below_step (below_alloc HB.out _) hb2); have HO2 := Aside0.mk (Kd.R_below (Kd.R_alloc HO.out _) hb2); clear hb2)
      go_roundw
      case rel => exact ⟨k + 1, xs, xn, by omega, rfl, by go_num, hxl, by omega, by omega, ⟨HS2.out⟩, HO2, HB2⟩
      case measure => simp [intOf]; omega
    | false =>
     have hstep : stepG (xs, nx) (enOf ⟨false, xn, xs0⟩) = if nx < 0 then .error 3 else if 256 ≤ nx then .error 7 else .ok (xs.set nx.toNat xs0, nx + 1) := by unfold stepG enOf; rw [if_neg (by simp)]
     rw [hstep] at hS
     clear hstep
     by_cases hn : nx < 0
     ·rw [if_pos hn] at hS
      have hR := HR.out
      rw [← hS] at hR
      injection hR with e1 hR
      injection hR with e2 e3
      subst e1 e2 e3
      clear hS HR
      have d1 : decide (nx < 0) = true := decide_eq_true hn
      clear hn
      go_wp2_with (go_at_call 28; refine (says_name xn xs0 _).mono ?_; rintro e W2 ⟨rfl, hb2⟩; have HB2 := Aside0.mk (below_step (below_alloc HB.out _) hb2); have HO2 := Aside0.mk (Kd.R_below (Kd.R_alloc HO.out _) hb2); clear hb2)
      go_ret3
      exact ⟨_, rfl, Kd.R_nil _ _ _ _ _, HB2.out⟩
     rw [if_neg hn] at hS
     have d1 : decide (nx < 0) = false := decide_eq_false hn
     by_cases hn2 : 256 ≤ nx
     ·rw [if_pos hn2] at hS
      have hR := HR.out
      rw [← hS] at hR
      injection hR with e1 hR
      injection hR with e2 e3
      subst e1 e2 e3
      clear hS HR
      have d2 : decide (256 ≤ nx) = true := decide_eq_true hn2
      clear hn hn2
      go_wp2_with (go_at_call 28; refine (says_name xn xs0 _).mono ?_; rintro e W2 ⟨rfl, hb2⟩; have HB2 := Aside0.mk (below_step (below_alloc HB.out _) hb2); have HO2 := Aside0.mk (Kd.R_below (Kd.R_alloc HO.out _) hb2); clear hb2)
      go_ret3
      exact ⟨_, rfl, Kd.R_nil _ _ _ _ _, HB2.out⟩
     ·rw [if_neg hn2] at hS
      have HS2 := Aside0.mk hS
      clear hS
      have d2 : decide (256 ≤ nx) = false := decide_eq_false hn2
      have p1 : 0 ≤ nx := by omega
      have q1 : nx < ((256 : Nat) : Int) := by omega
      have p2 := eq_true p1
      have q2 : (nx < 256) = True := eq_true (by omega)
      go_wp2_with ((go_at_call 28; refine (says_name xn xs0 _).mono ?_; rintro e W2 ⟨rfl, hb2⟩; have HB2 := Aside0.mk (below_step (below_alloc HB.out _) hb2); have HO2 := Aside0.mk (Kd.R_below (Kd.R_alloc HO.out _) hb2); clear hb2 HO HB hx0 hx1 hx2; obtain ⟨g, cc, eo, gb, gl, cl, HG⟩ := Kd.R_form HO2.out (by omega); injection eo with ea en ec; subst ea ec; have GB := Aside0.mk gb; clear gb gl cl HG en; obtain ⟨hc0_, hf0_⟩ := Kd.R_celln ByteArray.empty HO2.out nx p1 q1; have HP := Aside0.mk (Kd.R_putg HO2.out nx xs0)))
      refine ⟨⟨k + 1, xs.set nx.toNat xs0, nx + 1, by omega, rfl, by go_num, by rw [List.length_set]; exact hxl, by omega, by omega, ⟨HS2.out⟩, ⟨HP.out.1⟩, ⟨below_set HB2.out GB.out⟩⟩, ?_⟩
      simp [intOf]
      omega
   ·have hkl : k = l1.length := by omega
    subst hkl
    have hS := HS.out
    rw [List.drop_eq_nil_of_le (Nat.le_refl _), List.map_nil] at hS
    have hR := HR.out
    rw [← hS] at hR
    injection hR with e1 hR
    injection hR with e2 e3
    subst e1 e2 e3
    go_wp2
    go_ret3
    exact ⟨_, rfl, HO.out, HB.out⟩
 ·rw [if_neg h256] at h
  have hR := Option.some.inj h
  injection hR with e1 hR
  injection hR with e2 e3
  subst e1 e2 e3
  have hli : ¬ (l0.length : Int) = 256 := by omega
  have hli2 : ((l0.length : Int) != 256) = true := bne_iff_ne.2 hli
  go_enter Tryz.func13, Tryz.ntmps13
  go_wp2
  go_ret3
  exact ⟨_, rfl, Kd.R_nil _ _ _ _ _, Below.refl _ _⟩
def noName : ByteArray := ⟨#[]⟩
/-- The names as an array's value. -/
def namesV (l : List ByteArray) : Array Value := (l.map Value.string).toArray
def asciiL (nm : List ByteArray) : List ByteArray := List.replicate 32 noName ++ nm.take 95 ++ List.replicate 129 noName
theorem zero_names : Tryz.zeroCells73 = namesV (List.replicate 256 noName) := by kernel_rfl
theorem namesV_size (l : List ByteArray) : (namesV l).size = l.length := by simp [namesV]
theorem namesV_one (l : List ByteArray) : (namesV l).all (·.oneCell') = true := by
 rw [Array.all_eq_true]
 intro i hi
 simp [namesV, Value.oneCell']
theorem asciiL_length (nm : List ByteArray) (h : 95 ≤ nm.length) : (asciiL nm).length = 256 := by
 simp [asciiL]; omega
theorem ascii_row (nm : List ByteArray) (h : 95 ≤ nm.length) : ((namesV (List.replicate 256 noName)).toList.take 32 ++ (nm.take 95).map Value.string ++ (namesV (List.replicate 256 noName)).toList.drop (32 + 95)).toArray = namesV (asciiL nm) := by
 simp only [namesV, List.toList_toArray, List.map_replicate, List.take_replicate, List.drop_replicate, asciiL, List.map_append]
 rfl
theorem heap_setRow_ne (w : World) (g i : Nat) (cs : Array Value) (h : i ≠ g) : (w.setRow g cs).heap[i]? = w.heap[i]? := by
 unfold World.setRow
 rw [Array.getElem?_modify, if_neg (fun e => h e.symm)]
theorem names_cell {w : World} {b q : Nat} {m : List ByteArray} {t : TypeId} (h : w.heap[b]? = some (.cells (namesV m) t (0, 0))) (hq : q < m.length) :
  w.cell? ⟨b, q, none⟩ = some (.string m[q]) ∧ w.frozen? ⟨b, q, none⟩ = false := by
 constructor
 ·simp [World.cell?, h, namesV, hq]
 ·simp [World.frozen?, h]
theorem names_set {w : World} {b q : Nat} {m : List ByteArray} {t : TypeId} (x : ByteArray) (h : w.heap[b]? = some (.cells (namesV m) t (0, 0))) :
  (w.setCell ⟨b, q, none⟩ (.string x)).heap[b]? = some (.cells (namesV (m.set q x)) t (0, 0)) := by
 rw [heap_setCell_same w b q _ t _ h]
 simp [namesV, List.map_set]
theorem cell_set_other (w : World) (b q : Nat) (v : Value) (a : Addr) (h : a.block ≠ b) : (w.setCell ⟨b, q, none⟩ v).cell? a = w.cell? a := by
 unfold World.cell?
 rw [heap_setCell_other w ⟨b, q, none⟩ a.block v h]
end Go.Proofs.YtdcldaknmenklaaGreatDoor.M
end
section
namespace Go.Proofs.YtdcldaknmenklaaGreatDoor.M
open Go.RowKit Go.Proofs.YtdcldaknmenklaaGreatDoorW.PrintWords
set_option linter.unusedVariables false
def slices_Grow_string_string.f (l0 : List ByteArray) (a1 : Int) : Option (List ByteArray) := if l0 = [] ∧ 0 ≤ a1 ∧ a1 ≤ 8796093022208 then some [] else none
set_option maxHeartbeats 4000000 in
set_option maxRecDepth 100000 in
theorem slices_Grow_string_string.calls_nil (a1 : Int) (r : List ByteArray) (w : World) (h : slices_Grow_string_string.f [] a1 = some r) :
  Calls Tryz.prog 141 #[.slice none 0 0, .int .i64 a1] w fun e w' => ∃ v0_ : Value, e = .returned (v0_) ∧ Kd.R Kd.string 9 w' w.heap.size (fun _ => True) v0_ r ∧ Below w.heap.size w w' := by
 unfold slices_Grow_string_string.f at h
 split at h
 case isFalse => cases h
 rename_i hb
 obtain rfl := Option.some.inj h
 clear h
 obtain ⟨-, h0, h1⟩ := hb
 obtain ⟨n, rfl⟩ := Int.eq_ofNat_of_zero_le h0
 clear h0
 by_cases hz : n = 0
 ·subst hz
  go_enter Tryz.func141, Tryz.ntmps141
  go_wp2
  all_goals (go_ret; exact ⟨_, rfl, Kd.R_nil _ _ _ _ _, Below.refl _ _⟩)
 ·have hmap : (Tryz.prog.info? 9).map (fun i => (i.zero, i.size, i.bytes)) = some (some (.string ⟨#[]⟩), 1, 16) := by kernel_rfl
  obtain ⟨i, hi, hi2⟩ := Option.map_eq_some_iff.1 hmap
  simp only [Prod.mk.injEq] at hi2
  obtain ⟨hi0, hi1, hib⟩ := hi2
  have hrz := fun ty => Lib.run_append_nil_zeros (P := Tryz.prog) w 25 3 ty 9 i (.string ⟨#[]⟩) .i64 .i64 Tryz.underlying25 Tryz.underlying3 hi hi0 n (by omega) (by omega) (by omega) (by rw [hib]; omega)
  clear hmap hi hi0 hi1 hib
  have hGn : n ≤ grownCap w n 0 9 := grownCap_ge w _ _ _
  have hG := grownCap_le_maxLen w n 0 9 (by unfold maxLen; omega)
  generalize grownCap w n 0 9 = G at hrz hGn hG
  go_enter Tryz.func141, Tryz.ntmps141
  go_wp2_with (at_builtin; refine Lib.wpList_append_run _ rfl _ _ _ _ rfl _ _ rfl rfl _ _ (hrz _) ?_)
  all_goals (go_ret; refine ⟨_, rfl, ?_, below_alloc (below_drew (Below.refl _ w)) _⟩)
  all_goals exact strings_fresh w.drew [] _ 0 G rfl (Nat.zero_le _) hG (by rw [Array.size_append, size_zeroCells, size_zeroCells]; show n * 1 + (G - n) * 1 = G; omega) (by simp)
end Go.Proofs.YtdcldaknmenklaaGreatDoor.M
end
section
/- Laid by this session's program hbprint.py out of the translation: the function slices.Concat   string string  and its contract. -/
namespace Go.Proofs.YtdcldaknmenklaaGreatDoor.M
open Go.RowKit Go.Proofs.YtdcldaknmenklaaGreatDoorW.PrintWords Go.Proofs.YtdcldaknmenklaaGreatDoorW.PrintLast Go.Proofs.YtdcldaknmenklaaGreatDoorW.PrintMore
attribute [local go_sem] max2_int min2_int max_two min_two max_three min_three max_four min_four
set_option linter.unusedVariables false
set_option linter.unusedSimpArgs false
mutual
def slices_Concat_string_string.l0 : Nat → List (List ByteArray) → Int → List (List ByteArray) → Int → Int → Option (List ByteArray)
 | 0, _, _, _, _, _ => none
 | k + 1, x0, x3, x9, x10, x11 => if x11 < x10 then (if 0 ≤ x11 then (if x11 < (x9.length : Int) then (if (wrap64 (x3 + ((rd_L1 x9 x11).length : Int))) < 0 then (none) else (slices_Concat_string_string.l0 k x0 (wrap64 (x3 + ((rd_L1 x9 x11).length : Int))) x9 x10 (wrap64 (x11 + 1)))) else (none)) else (none)) else ((slices_Grow_string_string.f ([] : List ByteArray) x3).bind fun t126 => (slices_Concat_string_string.l1 k t126 x0 (x0.length : Int) 0))
def slices_Concat_string_string.l1 : Nat → List ByteArray → List (List ByteArray) → Int → Int → Option (List ByteArray)
 | 0, _, _, _, _ => none
 | k + 1, x6, x25, x26, x27 => if x27 < x26 then (if 0 ≤ x27 then (if x27 < (x25.length : Int) then (if x6.length + (rd_L1 x25 x27).length < 8796093022208 then (slices_Concat_string_string.l1 k (x6 ++ (rd_L1 x25 x27)) x25 x26 (wrap64 (x27 + 1))) else (none)) else (none)) else (none)) else (some x6)
end
def slices_Concat_string_string.f (k : Nat) (l0 : List (List ByteArray)) : Option (List ByteArray) := slices_Concat_string_string.l0 k l0 0 l0 (l0.length : Int) 0
theorem slices_Concat_string_string.mono_l : ∀ k, (∀ y0 y1 y2 y3 y4, LeO (slices_Concat_string_string.l0 k y0 y1 y2 y3 y4) (slices_Concat_string_string.l0 (k + 1) y0 y1 y2 y3 y4)) ∧ (∀ y0 y1 y2 y3, LeO (slices_Concat_string_string.l1 k y0 y1 y2 y3) (slices_Concat_string_string.l1 (k + 1) y0 y1 y2 y3))
 | 0 => ⟨fun _ _ _ _ _ r h => by simp [slices_Concat_string_string.l0] at h, fun _ _ _ _ r h => by simp [slices_Concat_string_string.l1] at h⟩
 | k + 1 => by
  obtain ⟨ih0, ih1⟩ := slices_Concat_string_string.mono_l k
  refine ⟨?_, ?_⟩
  ·intro y0 y1 y2 y3 y4
   unfold slices_Concat_string_string.l0
   repeat' first
   | (with_reducible exact ih0 _ _ _ _ _)
   | (with_reducible exact ih1 _ _ _ _)
   | (with_reducible exact LeO.refl _)
   | (with_reducible exact LeO.none _)
   | (with_reducible refine LeO.ite ?_ ?_)
   | (with_reducible refine LeO.bind ?_ (fun _ => ?_))
   | exact ih0 _ _ _ _ _
   | exact ih1 _ _ _ _
   | exact LeO.none _
   | refine LeO.ite ?_ ?_
   | refine LeO.bind ?_ (fun _ => ?_)
  ·intro y0 y1 y2 y3
   unfold slices_Concat_string_string.l1
   repeat' first
   | (with_reducible exact ih0 _ _ _ _ _)
   | (with_reducible exact ih1 _ _ _ _)
   | (with_reducible exact LeO.refl _)
   | (with_reducible exact LeO.none _)
   | (with_reducible refine LeO.ite ?_ ?_)
   | (with_reducible refine LeO.bind ?_ (fun _ => ?_))
   | exact ih0 _ _ _ _ _
   | exact ih1 _ _ _ _
   | exact LeO.none _
   | refine LeO.ite ?_ ?_
   | refine LeO.bind ?_ (fun _ => ?_)
theorem slices_Concat_string_string.mono : ∀ a0 k, LeO (slices_Concat_string_string.f k a0) (slices_Concat_string_string.f (k + 1) a0) := by
 intro a0 k
 obtain ⟨ih0, ih1⟩ := slices_Concat_string_string.mono_l k
 unfold slices_Concat_string_string.f
 repeat' first
   | (with_reducible exact ih0 _ _ _ _ _)
   | (with_reducible exact ih1 _ _ _ _)
   | (with_reducible exact LeO.refl _)
   | (with_reducible exact LeO.none _)
   | (with_reducible refine LeO.ite ?_ ?_)
   | (with_reducible refine LeO.bind ?_ (fun _ => ?_))
   | exact ih0 _ _ _ _ _
   | exact ih1 _ _ _ _
   | exact LeO.none _
   | refine LeO.ite ?_ ?_
   | refine LeO.bind ?_ (fun _ => ?_)
set_option maxHeartbeats 8000000 in
set_option maxRecDepth 100000 in
theorem slices_Concat_string_string.calls (k : Nat) (A0 : Option Addr) (c0 : Nat) (l0 : List (List ByteArray)) (r : List ByteArray) (w : World) (hr0 : Kd.C (Kd.slice 9 Kd.string) w A0 l0.length l0) (hc0 : l0.length ≤ c0) (h : slices_Concat_string_string.f k l0 = some r) :
  Calls Tryz.prog 123 #[.slice A0 l0.length c0] w fun e w' => ∃ v0_ : Value, e = .returned (v0_) ∧ Kd.R Kd.string 9 w' w.heap.size (fun _ => True) v0_ r ∧ Below w.heap.size w w' := by
 have HR0 := aM hr0
 have HC0 := aM hc0
 clear hr0 hc0
 have HB := aM (Below.refl w.heap.size w)
 have H : (slices_Concat_string_string.l0 k l0 0 l0 (l0.length : Int) 0) = some r := h
 clear h
 have H' := aM H
 clear H
 go_enter Tryz.func123, Tryz.ntmps123
 go_wp2
 go_loopg [3, 11] k (fun kq v3 v11 w' => ∃ (x3_1 : Int) (x11_1 : Int), v3 = .int .i64 x3_1 ∧ v11 = .int .i64 x11_1 ∧ Aside0 (slices_Concat_string_string.l0 kq l0 x3_1 l0 (l0.length : Int) x11_1 = some r) ∧ Aside0 (kq ≤ k) ∧ Aside0 (Below w.heap.size w w'))
 case atStart => exact ⟨(0), (0), vQ, vQ, H', ⟨Nat.le_refl _⟩, ⟨bQ⟩⟩
 case round =>
  clear H'
  try clear c1
  obtain ⟨x3_1, x11_1, rfl, rfl, HA, HK1, HB⟩ := hrel
  cases gk with
  | zero => exact absurd HA.out (by simp [slices_Concat_string_string.l0])
  | succ k1 =>
   have H := HA.out
   clear HA
   simp only [slices_Concat_string_string.l0] at H
   refine iD H ?_ ?_<;>clear H<;>intro H c2b0
   ·refine iD H ?_ ?_<;>clear H<;>intro H c3b0
    rotate_left
    ·exact absurd H (by simp)
    refine iD H ?_ ?_<;>clear H<;>intro H c4b0
    rotate_left
    ·exact absurd H (by simp)
    refine iD H ?_ ?_<;>clear H<;>intro H c5b0
    ·exact absurd H (by simp)
    have H' := aM H
    clear H
    have p125 : 0 ≤ (x11_1 : Int) := of_decide_eq_true hQ
    have q125 : x11_1 < (l0.length : Int) := of_decide_eq_true hQ
    obtain ⟨ad125, A125_0, c125_0, e125, hx125_0, hl125_0, hi125_0⟩ := at_L1 HR0.out x11_1 p125 q125
    cases e125
    replace hx125_0 := (HB.out.cell (World.block_lt_of_cell? w _ hx125_0)).trans hx125_0
    have HR125_0 := aM hi125_0
    have HC125_0 := aM hl125_0
    clear hi125_0 hl125_0
    replace p125 := eq_true p125
    replace q125 := eq_true q125
    go_wp2
    go_roundg k1
    case measure => have := HK1.out; omega
    case rel => exact ⟨(wrap64 (x3_1 + ((rd_L1 l0 x11_1).length : Int))), (wrap64 (x11_1 + 1)), vQ, vQ, H', ⟨by have := HK1.out; omega⟩, ⟨bQ⟩⟩
   replace H := bS H
   obtain ⟨t126, A6, H⟩ := H
   try dsimp only at H
   have H' := aM H
   clear H
   go_wp2_with (first | ((with_reducible refine gC 141 ?_); refine gL (some 24) Tryz.func141 #[.slice none 0 0, .int .i64 x3_1] ?_; (refine (slices_Grow_string_string.calls_nil x3_1 t126 _ A6.out).mono ?_); rintro e w7 ⟨v127, rfl, ho0, hb⟩; refine ⟨_, rfl, ?_⟩; have HO128 := lK ho0; replace HB := sB hb; clear hb ho0))
   go_loopg [6, 27] k1 (fun kq v6 v27 w' => ∃ (x6_2 : List ByteArray) (x27_2 : Int), v27 = .int .i64 x27_2 ∧ Aside0 (slices_Concat_string_string.l1 kq x6_2 l0 (l0.length : Int) x27_2 = some r) ∧ Aside0 (kq ≤ k1) ∧ Aside0 (Kd.R Kd.string 9 w' w.heap.size (fun _ => True) v6 x6_2) ∧ Aside0 (Below w.heap.size w w'))
   case atStart => exact ⟨(t126), (0), vQ, H', ⟨Nat.le_refl _⟩, ⟨mQ HO128⟩, ⟨bQ⟩⟩
   case round =>
    clear H'
    try clear c1
    try clear p1
    try clear q1
    try clear hx1
    try clear c2
    try clear c2b0
    try clear p2
    try clear c3
    try clear c3b0
    try clear c4
    try clear c4b0
    try clear c5
    try clear c5b0
    try clear p6
    try clear hx125_0
    try clear p125
    try clear q125
    obtain ⟨x6_2, x27_2, rfl, HA, HK2, HO_6, HB⟩ := hrel
    cases gk with
    | zero => exact absurd HA.out (by simp [slices_Concat_string_string.l1])
    | succ k2 =>
     have H := HA.out
     clear HA
     simp only [slices_Concat_string_string.l1] at H
     refine iD H ?_ ?_<;>clear H<;>intro H c8b0
     rotate_left
     ·obtain rfl := Option.some.inj H
      go_wp2
      go_ret
      exact ⟨_, eQ, mQ HO_6, bQ⟩
     refine iD H ?_ ?_<;>clear H<;>intro H c9b0
     rotate_left
     ·exact absurd H (by simp)
     refine iD H ?_ ?_<;>clear H<;>intro H c10b0
     rotate_left
     ·exact absurd H (by simp)
     refine iNc H ?_ ?_<;>clear H<;>intro H c11
     rotate_left
     ·exact absurd H (by simp)
     have LMc11 := aM c11
     clear c11
     obtain ⟨y130, hy130⟩ : ∃ y_ : List ByteArray, y_ = (x6_2 ++ (rd_L1 l0 x27_2)) := ⟨_, rfl⟩
     replace H : (slices_Concat_string_string.l1 k2 y130 l0 (l0.length : Int) (wrap64 (x27_2 + 1))) = some r := by first | (rw [hy130]; with_reducible exact H) | (have H2_ := (Option.bind_some _ _).symm.trans H; rw [hy130]; with_reducible exact H2_) | (have H2_ := (Option.bind_some _ _).symm.trans H; with_reducible exact H2_) | with_reducible exact H | (rw [hy130]; exact H) | exact H
     have Ny130 := aM hy130
     clear hy130
     have H' := aM H
     clear H
     have p129 : 0 ≤ (x27_2 : Int) := of_decide_eq_true hQ
     have q129 : x27_2 < (l0.length : Int) := of_decide_eq_true hQ
     obtain ⟨ad129, A129_0, c129_0, e129, hx129_0, hl129_0, hi129_0⟩ := at_L1 HR0.out x27_2 p129 q129
     cases e129
     replace hx129_0 := (HB.out.cell (World.block_lt_of_cell? w _ hx129_0)).trans hx129_0
     have HR129_0 := aM hi129_0
     have HC129_0 := aM hl129_0
     clear hi129_0 hl129_0
     replace p129 := eq_true p129
     replace q129 := eq_true q129
     go_wp2_with (first | ((with_reducible refine gate_builtin (b := .append) (xs := #[.tmp 31, .tmp 32]) rfl ?_); at_builtin; refine Kd.R_append_rows Kd.string (w0 := w) w.heap.size rfl (.tmp 31) (.tmp 32) 25 9 (.string ⟨#[]⟩) 16 rfl Tryz.underlying25 info9 rfl (by decide) (by omega) u6 x6_2 (rd_L1 l0 x27_2) _ _ _ (fun _ => True) (fun _ => False) rfl rfl ?aO ?aR (fun _ _ h => h) (fun _ h => h.elim) ?aF ?aB ?aS ?aL ?_; (case aR => repeat (first | exact (Kd.C_below HR129_0.out HB.out) | (with_reducible first|refine Kd.C_alloc ?_ _|refine Kd.C_drewN ?_ _|refine Kd.C_drew ?_))); (case aB => exact bQ); (case aF => exact (fun _ _ => trivial)); (case aO => exact (mQ HO_6)); (case aS => exact (below_size bQ)); (case aL => have := LMc11.out; omega); intro v131 w12 ho hb hg hat; rw [← Ny130.out] at ho; have n0_ := aM hb; have n1_ := aM ho; clear HB; clear HO_6; have HB := n0_; have HO132 := n1_; clear n0_ n1_; clear ho hb hg hat))
     go_roundg k2
     case measure => have := HK1.out; have := HK2.out; omega
     case rel => exact ⟨(y130), (wrap64 (x27_2 + 1)), vQ, H', ⟨by have := HK1.out; have := HK2.out; omega⟩, ⟨mQ HO132⟩, ⟨bQ⟩⟩
end Go.Proofs.YtdcldaknmenklaaGreatDoor.M
end
section
namespace Go.Proofs.YtdcldaknmenklaaGreatDoor.M
open Go.RowKit Go.Proofs.YtdcldaknmenklaaGreatDoorW.PrintWords Go.Proofs.YtdcldaknmenklaaGreatDoorW.PrintLast Go.Proofs.YtdcldaknmenklaaGreatDoorW.PrintMore
attribute [local go_sem] max2_int min2_int max_two min_two max_three min_three max_four min_four
set_option linter.unusedVariables false
set_option linter.unusedSimpArgs false
def glyph_part1.f  : Option (List ByteArray) := some (([(⟨#[115, 112, 97, 99, 101, 61, 48, 48, 50, 48, 32, 101, 120, 99, 108, 97, 109, 61, 48, 48, 50, 49, 32, 113, 117, 111, 116, 101, 100, 98, 108, 61, 48, 48, 50, 50, 32, 110, 117, 109, 98, 101, 114, 115, 105, 103, 110, 61, 48, 48, 50, 51, 32, 100, 111, 108, 108, 97, 114, 61, 48, 48, 50, 52, 32, 112, 101, 114, 99, 101, 110, 116, 61, 48, 48, 50, 53]⟩ : ByteArray), (⟨#[97, 109, 112, 101, 114, 115, 97, 110, 100, 61, 48, 48, 50, 54, 32, 113, 117, 111, 116, 101, 115, 105, 110, 103, 108, 101, 61, 48, 48, 50, 55, 32, 112, 97, 114, 101, 110, 108, 101, 102, 116, 61, 48, 48, 50, 56, 32, 112, 97, 114, 101, 110, 114, 105, 103, 104, 116, 61, 48, 48, 50, 57, 32, 97, 115, 116, 101, 114, 105, 115, 107, 61, 48, 48, 50, 65, 32, 112, 108, 117, 115, 61, 48, 48, 50, 66]⟩ : ByteArray), (⟨#[99, 111, 109, 109, 97, 61, 48, 48, 50, 67, 32, 104, 121, 112, 104, 101, 110, 61, 48, 48, 50, 68, 32, 112, 101, 114, 105, 111, 100, 61, 48, 48, 50, 69, 32, 115, 108, 97, 115, 104, 61, 48, 48, 50, 70, 32, 122, 101, 114, 111, 61, 48, 48, 51, 48, 32, 111, 110, 101, 61, 48, 48, 51, 49]⟩ : ByteArray), (⟨#[116, 119, 111, 61, 48, 48, 51, 50, 32, 116, 104, 114, 101, 101, 61, 48, 48, 51, 51, 32, 102, 111, 117, 114, 61, 48, 48, 51, 52, 32, 102, 105, 118, 101, 61, 48, 48, 51, 53, 32, 115, 105, 120, 61, 48, 48, 51, 54, 32, 115, 101, 118, 101, 110, 61, 48, 48, 51, 55]⟩ : ByteArray), (⟨#[101, 105, 103, 104, 116, 61, 48, 48, 51, 56, 32, 110, 105, 110, 101, 61, 48, 48, 51, 57, 32, 99, 111, 108, 111, 110, 61, 48, 48, 51, 65, 32, 115, 101, 109, 105, 99, 111, 108, 111, 110, 61, 48, 48, 51, 66, 32, 108, 101, 115, 115, 61, 48, 48, 51, 67, 32, 101, 113, 117, 97, 108, 61, 48, 48, 51, 68]⟩ : ByteArray), (⟨#[103, 114, 101, 97, 116, 101, 114, 61, 48, 48, 51, 69, 32, 113, 117, 101, 115, 116, 105, 111, 110, 61, 48, 48, 51, 70, 32, 97, 116, 61, 48, 48, 52, 48, 32, 65, 61, 48, 48, 52, 49, 32, 66, 61, 48, 48, 52, 50, 32, 67, 61, 48, 48, 52, 51]⟩ : ByteArray), (⟨#[68, 61, 48, 48, 52, 52, 32, 69, 61, 48, 48, 52, 53, 32, 70, 61, 48, 48, 52, 54, 32, 71, 61, 48, 48, 52, 55, 32, 72, 61, 48, 48, 52, 56, 32, 73, 61, 48, 48, 52, 57]⟩ : ByteArray), (⟨#[74, 61, 48, 48, 52, 65, 32, 75, 61, 48, 48, 52, 66, 32, 76, 61, 48, 48, 52, 67, 32, 77, 61, 48, 48, 52, 68, 32, 78, 61, 48, 48, 52, 69, 32, 79, 61, 48, 48, 52, 70]⟩ : ByteArray), (⟨#[80, 61, 48, 48, 53, 48, 32, 81, 61, 48, 48, 53, 49, 32, 82, 61, 48, 48, 53, 50, 32, 83, 61, 48, 48, 53, 51, 32, 84, 61, 48, 48, 53, 52, 32, 85, 61, 48, 48, 53, 53]⟩ : ByteArray), (⟨#[86, 61, 48, 48, 53, 54, 32, 87, 61, 48, 48, 53, 55, 32, 88, 61, 48, 48, 53, 56, 32, 89, 61, 48, 48, 53, 57, 32, 90, 61, 48, 48, 53, 65, 32, 98, 114, 97, 99, 107, 101, 116, 108, 101, 102, 116, 61, 48, 48, 53, 66]⟩ : ByteArray), (⟨#[98, 97, 99, 107, 115, 108, 97, 115, 104, 61, 48, 48, 53, 67, 32, 98, 114, 97, 99, 107, 101, 116, 114, 105, 103, 104, 116, 61, 48, 48, 53, 68, 32, 97, 115, 99, 105, 105, 99, 105, 114, 99, 117, 109, 61, 48, 48, 53, 69, 32, 117, 110, 100, 101, 114, 115, 99, 111, 114, 101, 61, 48, 48, 53, 70, 32, 103, 114, 97, 118, 101, 61, 48, 48, 54, 48, 32, 97, 61, 48, 48, 54, 49]⟩ : ByteArray), (⟨#[98, 61, 48, 48, 54, 50, 32, 99, 61, 48, 48, 54, 51, 32, 100, 61, 48, 48, 54, 52, 32, 101, 61, 48, 48, 54, 53, 32, 102, 61, 48, 48, 54, 54, 32, 103, 61, 48, 48, 54, 55]⟩ : ByteArray), (⟨#[104, 61, 48, 48, 54, 56, 32, 105, 61, 48, 48, 54, 57, 32, 106, 61, 48, 48, 54, 65, 32, 107, 61, 48, 48, 54, 66, 32, 108, 61, 48, 48, 54, 67, 32, 109, 61, 48, 48, 54, 68]⟩ : ByteArray), (⟨#[110, 61, 48, 48, 54, 69, 32, 111, 61, 48, 48, 54, 70, 32, 112, 61, 48, 48, 55, 48, 32, 113, 61, 48, 48, 55, 49, 32, 114, 61, 48, 48, 55, 50, 32, 115, 61, 48, 48, 55, 51]⟩ : ByteArray), (⟨#[116, 61, 48, 48, 55, 52, 32, 117, 61, 48, 48, 55, 53, 32, 118, 61, 48, 48, 55, 54, 32, 119, 61, 48, 48, 55, 55, 32, 120, 61, 48, 48, 55, 56, 32, 121, 61, 48, 48, 55, 57]⟩ : ByteArray), (⟨#[122, 61, 48, 48, 55, 65, 32, 98, 114, 97, 99, 101, 108, 101, 102, 116, 61, 48, 48, 55, 66, 32, 98, 97, 114, 61, 48, 48, 55, 67, 32, 98, 114, 97, 99, 101, 114, 105, 103, 104, 116, 61, 48, 48, 55, 68, 32, 97, 115, 99, 105, 105, 116, 105, 108, 100, 101, 61, 48, 48, 55, 69, 32, 101, 120, 99, 108, 97, 109, 100, 111, 119, 110, 61, 48, 48, 65, 49]⟩ : ByteArray), (⟨#[99, 101, 110, 116, 61, 48, 48, 65, 50, 32, 115, 116, 101, 114, 108, 105, 110, 103, 61, 48, 48, 65, 51, 32, 99, 117, 114, 114, 101, 110, 99, 121, 61, 48, 48, 65, 52, 32, 121, 101, 110, 61, 48, 48, 65, 53, 32, 98, 114, 111, 107, 101, 110, 98, 97, 114, 61, 48, 48, 65, 54, 32, 115, 101, 99, 116, 105, 111, 110, 61, 48, 48, 65, 55]⟩ : ByteArray), (⟨#[100, 105, 101, 114, 101, 115, 105, 115, 61, 48, 48, 65, 56, 32, 99, 111, 112, 121, 114, 105, 103, 104, 116, 61, 48, 48, 65, 57, 32, 111, 114, 100, 102, 101, 109, 105, 110, 105, 110, 101, 61, 48, 48, 65, 65, 32, 103, 117, 105, 108, 108, 101, 109, 111, 116, 108, 101, 102, 116, 61, 48, 48, 65, 66, 32, 108, 111, 103, 105, 99, 97, 108, 110, 111, 116, 61, 48, 48, 65, 67, 32, 114, 101, 103, 105, 115, 116, 101, 114, 101, 100, 61, 48, 48, 65, 69]⟩ : ByteArray), (⟨#[109, 97, 99, 114, 111, 110, 61, 48, 48, 65, 70, 32, 100, 101, 103, 114, 101, 101, 61, 48, 48, 66, 48, 32, 112, 108, 117, 115, 109, 105, 110, 117, 115, 61, 48, 48, 66, 49, 32, 116, 119, 111, 115, 117, 112, 101, 114, 105, 111, 114, 61, 48, 48, 66, 50, 32, 116, 104, 114, 101, 101, 115, 117, 112, 101, 114, 105, 111, 114, 61, 48, 48, 66, 51, 32, 97, 99, 117, 116, 101, 61, 48, 48, 66, 52]⟩ : ByteArray), (⟨#[109, 117, 61, 48, 48, 66, 53, 32, 112, 97, 114, 97, 103, 114, 97, 112, 104, 61, 48, 48, 66, 54, 32, 112, 101, 114, 105, 111, 100, 99, 101, 110, 116, 101, 114, 101, 100, 61, 48, 48, 66, 55, 32, 99, 101, 100, 105, 108, 108, 97, 61, 48, 48, 66, 56, 32, 111, 110, 101, 115, 117, 112, 101, 114, 105, 111, 114, 61, 48, 48, 66, 57, 32, 111, 114, 100, 109, 97, 115, 99, 117, 108, 105, 110, 101, 61, 48, 48, 66, 65]⟩ : ByteArray), (⟨#[103, 117, 105, 108, 108, 101, 109, 111, 116, 114, 105, 103, 104, 116, 61, 48, 48, 66, 66, 32, 111, 110, 101, 113, 117, 97, 114, 116, 101, 114, 61, 48, 48, 66, 67, 32, 111, 110, 101, 104, 97, 108, 102, 61, 48, 48, 66, 68, 32, 116, 104, 114, 101, 101, 113, 117, 97, 114, 116, 101, 114, 115, 61, 48, 48, 66, 69, 32, 113, 117, 101, 115, 116, 105, 111, 110, 100, 111, 119, 110, 61, 48, 48, 66, 70, 32, 65, 103, 114, 97, 118, 101, 61, 48, 48, 67, 48]⟩ : ByteArray), (⟨#[65, 97, 99, 117, 116, 101, 61, 48, 48, 67, 49, 32, 65, 99, 105, 114, 99, 117, 109, 102, 108, 101, 120, 61, 48, 48, 67, 50, 32, 65, 116, 105, 108, 100, 101, 61, 48, 48, 67, 51, 32, 65, 100, 105, 101, 114, 101, 115, 105, 115, 61, 48, 48, 67, 52, 32, 65, 114, 105, 110, 103, 61, 48, 48, 67, 53, 32, 65, 69, 61, 48, 48, 67, 54]⟩ : ByteArray), (⟨#[67, 99, 101, 100, 105, 108, 108, 97, 61, 48, 48, 67, 55, 32, 69, 103, 114, 97, 118, 101, 61, 48, 48, 67, 56, 32, 69, 97, 99, 117, 116, 101, 61, 48, 48, 67, 57, 32, 69, 99, 105, 114, 99, 117, 109, 102, 108, 101, 120, 61, 48, 48, 67, 65, 32, 69, 100, 105, 101, 114, 101, 115, 105, 115, 61, 48, 48, 67, 66, 32, 73, 103, 114, 97, 118, 101, 61, 48, 48, 67, 67]⟩ : ByteArray), (⟨#[73, 97, 99, 117, 116, 101, 61, 48, 48, 67, 68, 32, 73, 99, 105, 114, 99, 117, 109, 102, 108, 101, 120, 61, 48, 48, 67, 69, 32, 73, 100, 105, 101, 114, 101, 115, 105, 115, 61, 48, 48, 67, 70, 32, 69, 116, 104, 61, 48, 48, 68, 48, 32, 78, 116, 105, 108, 100, 101, 61, 48, 48, 68, 49, 32, 79, 103, 114, 97, 118, 101, 61, 48, 48, 68, 50]⟩ : ByteArray), (⟨#[79, 97, 99, 117, 116, 101, 61, 48, 48, 68, 51, 32, 79, 99, 105, 114, 99, 117, 109, 102, 108, 101, 120, 61, 48, 48, 68, 52, 32, 79, 116, 105, 108, 100, 101, 61, 48, 48, 68, 53, 32, 79, 100, 105, 101, 114, 101, 115, 105, 115, 61, 48, 48, 68, 54, 32, 109, 117, 108, 116, 105, 112, 108, 121, 61, 48, 48, 68, 55, 32, 79, 115, 108, 97, 115, 104, 61, 48, 48, 68, 56]⟩ : ByteArray), (⟨#[85, 103, 114, 97, 118, 101, 61, 48, 48, 68, 57, 32, 85, 97, 99, 117, 116, 101, 61, 48, 48, 68, 65, 32, 85, 99, 105, 114, 99, 117, 109, 102, 108, 101, 120, 61, 48, 48, 68, 66, 32, 85, 100, 105, 101, 114, 101, 115, 105, 115, 61, 48, 48, 68, 67, 32, 89, 97, 99, 117, 116, 101, 61, 48, 48, 68, 68, 32, 84, 104, 111, 114, 110, 61, 48, 48, 68, 69]⟩ : ByteArray), (⟨#[103, 101, 114, 109, 97, 110, 100, 98, 108, 115, 61, 48, 48, 68, 70, 32, 97, 103, 114, 97, 118, 101, 61, 48, 48, 69, 48, 32, 97, 97, 99, 117, 116, 101, 61, 48, 48, 69, 49, 32, 97, 99, 105, 114, 99, 117, 109, 102, 108, 101, 120, 61, 48, 48, 69, 50, 32, 97, 116, 105, 108, 100, 101, 61, 48, 48, 69, 51, 32, 97, 100, 105, 101, 114, 101, 115, 105, 115, 61, 48, 48, 69, 52]⟩ : ByteArray), (⟨#[97, 114, 105, 110, 103, 61, 48, 48, 69, 53, 32, 97, 101, 61, 48, 48, 69, 54, 32, 99, 99, 101, 100, 105, 108, 108, 97, 61, 48, 48, 69, 55, 32, 101, 103, 114, 97, 118, 101, 61, 48, 48, 69, 56, 32, 101, 97, 99, 117, 116, 101, 61, 48, 48, 69, 57, 32, 101, 99, 105, 114, 99, 117, 109, 102, 108, 101, 120, 61, 48, 48, 69, 65]⟩ : ByteArray), (⟨#[101, 100, 105, 101, 114, 101, 115, 105, 115, 61, 48, 48, 69, 66, 32, 105, 103, 114, 97, 118, 101, 61, 48, 48, 69, 67, 32, 105, 97, 99, 117, 116, 101, 61, 48, 48, 69, 68, 32, 105, 99, 105, 114, 99, 117, 109, 102, 108, 101, 120, 61, 48, 48, 69, 69, 32, 105, 100, 105, 101, 114, 101, 115, 105, 115, 61, 48, 48, 69, 70, 32, 101, 116, 104, 61, 48, 48, 70, 48]⟩ : ByteArray), (⟨#[110, 116, 105, 108, 100, 101, 61, 48, 48, 70, 49, 32, 111, 103, 114, 97, 118, 101, 61, 48, 48, 70, 50, 32, 111, 97, 99, 117, 116, 101, 61, 48, 48, 70, 51, 32, 111, 99, 105, 114, 99, 117, 109, 102, 108, 101, 120, 61, 48, 48, 70, 52, 32, 111, 116, 105, 108, 100, 101, 61, 48, 48, 70, 53, 32, 111, 100, 105, 101, 114, 101, 115, 105, 115, 61, 48, 48, 70, 54]⟩ : ByteArray)] : List ByteArray))
set_option maxHeartbeats 8000000 in
set_option maxRecDepth 100000 in
theorem glyph_part1.calls  (r : List ByteArray) (w : World) (h : glyph_part1.f  = some r) :
  Calls Tryz.prog 124 #[] w fun e w' => ∃ v0_ : Value, e = .returned (v0_) ∧ Kd.R Kd.string 9 w' w.heap.size (fun _ => True) v0_ r ∧ Below w.heap.size w w' := by
 have HB := aM (Below.refl w.heap.size w)
 have Ny133 := aM (Option.some.inj (show some _ = some r from h)).symm
 clear h
 go_enter Tryz.func124, Tryz.ntmps124
 go_wp2_with (first | ((with_reducible refine gD 1 ?_); refine Kd.R_lit Kd.string _ 9 ?hg (N := 1) ?hd (xs := r) (inner := r.map Value.string) (ok := fun _ => True) (okp := fun _ => True) ?hr ?hp (fun _ hk => hk) trivial (Below.refl _ _) (Nat.le_refl _) (by rw [Ny133.out]; simp) ?_; (case hd => rfl); (case hg => rfl); (case hr => rw [Ny133.out]; simp only [List.map_cons, List.map_nil]; first | (go_simp; done) | (go_simp; rfl)); (case hp => exact repsS _ _ _ r); intro v134 w1 ho2 hb hg_ hnew_; clear hg_ hnew_; have HO135 := lK ho2; replace HB := sB hb; clear hb ho2))
 go_ret
 exact ⟨_, eQ, mQ HO135, bQ⟩
def glyph_part2.f  : Option (List ByteArray) := some (([(⟨#[100, 105, 118, 105, 100, 101, 61, 48, 48, 70, 55, 32, 111, 115, 108, 97, 115, 104, 61, 48, 48, 70, 56, 32, 117, 103, 114, 97, 118, 101, 61, 48, 48, 70, 57, 32, 117, 97, 99, 117, 116, 101, 61, 48, 48, 70, 65, 32, 117, 99, 105, 114, 99, 117, 109, 102, 108, 101, 120, 61, 48, 48, 70, 66, 32, 117, 100, 105, 101, 114, 101, 115, 105, 115, 61, 48, 48, 70, 67]⟩ : ByteArray), (⟨#[121, 97, 99, 117, 116, 101, 61, 48, 48, 70, 68, 32, 116, 104, 111, 114, 110, 61, 48, 48, 70, 69, 32, 121, 100, 105, 101, 114, 101, 115, 105, 115, 61, 48, 48, 70, 70, 32, 69, 117, 114, 111, 61, 50, 48, 65, 67, 32, 113, 117, 111, 116, 101, 115, 105, 110, 103, 108, 98, 97, 115, 101, 61, 50, 48, 49, 65, 32, 102, 108, 111, 114, 105, 110, 61, 48, 49, 57, 50]⟩ : ByteArray), (⟨#[113, 117, 111, 116, 101, 100, 98, 108, 98, 97, 115, 101, 61, 50, 48, 49, 69, 32, 101, 108, 108, 105, 112, 115, 105, 115, 61, 50, 48, 50, 54, 32, 100, 97, 103, 103, 101, 114, 61, 50, 48, 50, 48, 32, 100, 97, 103, 103, 101, 114, 100, 98, 108, 61, 50, 48, 50, 49, 32, 99, 105, 114, 99, 117, 109, 102, 108, 101, 120, 61, 48, 50, 67, 54, 32, 112, 101, 114, 116, 104, 111, 117, 115, 97, 110, 100, 61, 50, 48, 51, 48]⟩ : ByteArray), (⟨#[83, 99, 97, 114, 111, 110, 61, 48, 49, 54, 48, 32, 103, 117, 105, 108, 115, 105, 110, 103, 108, 108, 101, 102, 116, 61, 50, 48, 51, 57, 32, 79, 69, 61, 48, 49, 53, 50, 32, 90, 99, 97, 114, 111, 110, 61, 48, 49, 55, 68, 32, 113, 117, 111, 116, 101, 108, 101, 102, 116, 61, 50, 48, 49, 56, 32, 113, 117, 111, 116, 101, 114, 105, 103, 104, 116, 61, 50, 48, 49, 57]⟩ : ByteArray), (⟨#[113, 117, 111, 116, 101, 100, 98, 108, 108, 101, 102, 116, 61, 50, 48, 49, 67, 32, 113, 117, 111, 116, 101, 100, 98, 108, 114, 105, 103, 104, 116, 61, 50, 48, 49, 68, 32, 98, 117, 108, 108, 101, 116, 61, 50, 48, 50, 50, 32, 101, 110, 100, 97, 115, 104, 61, 50, 48, 49, 51, 32, 101, 109, 100, 97, 115, 104, 61, 50, 48, 49, 52, 32, 116, 105, 108, 100, 101, 61, 48, 50, 68, 67]⟩ : ByteArray), (⟨#[116, 114, 97, 100, 101, 109, 97, 114, 107, 61, 50, 49, 50, 50, 32, 115, 99, 97, 114, 111, 110, 61, 48, 49, 54, 49, 32, 103, 117, 105, 108, 115, 105, 110, 103, 108, 114, 105, 103, 104, 116, 61, 50, 48, 51, 65, 32, 111, 101, 61, 48, 49, 53, 51, 32, 122, 99, 97, 114, 111, 110, 61, 48, 49, 55, 69, 32, 89, 100, 105, 101, 114, 101, 115, 105, 115, 61, 48, 49, 55, 56]⟩ : ByteArray), (⟨#[102, 105, 61, 70, 66, 48, 49, 32, 102, 108, 61, 70, 66, 48, 50, 32, 102, 114, 97, 99, 116, 105, 111, 110, 61, 50, 48, 52, 52, 32, 100, 111, 116, 108, 101, 115, 115, 105, 61, 48, 49, 51, 49, 32, 76, 115, 108, 97, 115, 104, 61, 48, 49, 52, 49, 32, 108, 115, 108, 97, 115, 104, 61, 48, 49, 52, 50]⟩ : ByteArray), (⟨#[98, 114, 101, 118, 101, 61, 48, 50, 68, 56, 32, 99, 97, 114, 111, 110, 61, 48, 50, 67, 55, 32, 100, 111, 116, 97, 99, 99, 101, 110, 116, 61, 48, 50, 68, 57, 32, 104, 117, 110, 103, 97, 114, 117, 109, 108, 97, 117, 116, 61, 48, 50, 68, 68, 32, 111, 103, 111, 110, 101, 107, 61, 48, 50, 68, 66, 32, 114, 105, 110, 103, 61, 48, 50, 68, 65]⟩ : ByteArray), (⟨#[109, 105, 110, 117, 115, 61, 50, 50, 49, 50, 32, 110, 111, 116, 101, 113, 117, 97, 108, 61, 50, 50, 54, 48, 32, 105, 110, 102, 105, 110, 105, 116, 121, 61, 50, 50, 49, 69, 32, 108, 101, 115, 115, 101, 113, 117, 97, 108, 61, 50, 50, 54, 52, 32, 103, 114, 101, 97, 116, 101, 114, 101, 113, 117, 97, 108, 61, 50, 50, 54, 53, 32, 112, 97, 114, 116, 105, 97, 108, 100, 105, 102, 102, 61, 50, 50, 48, 50]⟩ : ByteArray), (⟨#[115, 117, 109, 109, 97, 116, 105, 111, 110, 61, 50, 50, 49, 49, 32, 112, 114, 111, 100, 117, 99, 116, 61, 50, 50, 48, 70, 32, 112, 105, 61, 48, 51, 67, 48, 32, 105, 110, 116, 101, 103, 114, 97, 108, 61, 50, 50, 50, 66, 32, 79, 109, 101, 103, 97, 61, 50, 49, 50, 54, 32, 114, 97, 100, 105, 99, 97, 108, 61, 50, 50, 49, 65]⟩ : ByteArray), (⟨#[97, 112, 112, 114, 111, 120, 101, 113, 117, 97, 108, 61, 50, 50, 52, 56, 32, 68, 101, 108, 116, 97, 61, 50, 50, 48, 54, 32, 108, 111, 122, 101, 110, 103, 101, 61, 50, 53, 67, 65, 32, 97, 112, 112, 108, 101, 61, 70, 56, 70, 70, 32, 65, 108, 112, 104, 97, 61, 48, 51, 57, 49, 32, 66, 101, 116, 97, 61, 48, 51, 57, 50]⟩ : ByteArray), (⟨#[71, 97, 109, 109, 97, 61, 48, 51, 57, 51, 32, 69, 112, 115, 105, 108, 111, 110, 61, 48, 51, 57, 53, 32, 90, 101, 116, 97, 61, 48, 51, 57, 54, 32, 69, 116, 97, 61, 48, 51, 57, 55, 32, 84, 104, 101, 116, 97, 61, 48, 51, 57, 56, 32, 73, 111, 116, 97, 61, 48, 51, 57, 57]⟩ : ByteArray), (⟨#[75, 97, 112, 112, 97, 61, 48, 51, 57, 65, 32, 76, 97, 109, 98, 100, 97, 61, 48, 51, 57, 66, 32, 77, 117, 61, 48, 51, 57, 67, 32, 78, 117, 61, 48, 51, 57, 68, 32, 88, 105, 61, 48, 51, 57, 69, 32, 79, 109, 105, 99, 114, 111, 110, 61, 48, 51, 57, 70]⟩ : ByteArray), (⟨#[80, 105, 61, 48, 51, 65, 48, 32, 82, 104, 111, 61, 48, 51, 65, 49, 32, 83, 105, 103, 109, 97, 61, 48, 51, 65, 51, 32, 84, 97, 117, 61, 48, 51, 65, 52, 32, 85, 112, 115, 105, 108, 111, 110, 61, 48, 51, 65, 53, 32, 80, 104, 105, 61, 48, 51, 65, 54]⟩ : ByteArray), (⟨#[67, 104, 105, 61, 48, 51, 65, 55, 32, 80, 115, 105, 61, 48, 51, 65, 56, 32, 97, 108, 112, 104, 97, 61, 48, 51, 66, 49, 32, 98, 101, 116, 97, 61, 48, 51, 66, 50, 32, 103, 97, 109, 109, 97, 61, 48, 51, 66, 51, 32, 100, 101, 108, 116, 97, 61, 48, 51, 66, 52]⟩ : ByteArray), (⟨#[101, 112, 115, 105, 108, 111, 110, 61, 48, 51, 66, 53, 32, 122, 101, 116, 97, 61, 48, 51, 66, 54, 32, 101, 116, 97, 61, 48, 51, 66, 55, 32, 116, 104, 101, 116, 97, 61, 48, 51, 66, 56, 32, 105, 111, 116, 97, 61, 48, 51, 66, 57, 32, 107, 97, 112, 112, 97, 61, 48, 51, 66, 65]⟩ : ByteArray), (⟨#[108, 97, 109, 98, 100, 97, 61, 48, 51, 66, 66, 32, 110, 117, 61, 48, 51, 66, 68, 32, 120, 105, 61, 48, 51, 66, 69, 32, 111, 109, 105, 99, 114, 111, 110, 61, 48, 51, 66, 70, 32, 114, 104, 111, 61, 48, 51, 67, 49, 32, 115, 105, 103, 109, 97, 49, 61, 48, 51, 67, 50]⟩ : ByteArray), (⟨#[115, 105, 103, 109, 97, 61, 48, 51, 67, 51, 32, 116, 97, 117, 61, 48, 51, 67, 52, 32, 117, 112, 115, 105, 108, 111, 110, 61, 48, 51, 67, 53, 32, 112, 104, 105, 61, 48, 51, 67, 54, 32, 99, 104, 105, 61, 48, 51, 67, 55, 32, 112, 115, 105, 61, 48, 51, 67, 56]⟩ : ByteArray), (⟨#[111, 109, 101, 103, 97, 61, 48, 51, 67, 57, 32, 116, 104, 101, 116, 97, 49, 61, 48, 51, 68, 49, 32, 85, 112, 115, 105, 108, 111, 110, 49, 61, 48, 51, 68, 50, 32, 112, 104, 105, 49, 61, 48, 51, 68, 53, 32, 111, 109, 101, 103, 97, 49, 61, 48, 51, 68, 54, 32, 117, 110, 105, 118, 101, 114, 115, 97, 108, 61, 50, 50, 48, 48]⟩ : ByteArray), (⟨#[101, 120, 105, 115, 116, 101, 110, 116, 105, 97, 108, 61, 50, 50, 48, 51, 32, 115, 117, 99, 104, 116, 104, 97, 116, 61, 50, 50, 48, 66, 32, 97, 115, 116, 101, 114, 105, 115, 107, 109, 97, 116, 104, 61, 50, 50, 49, 55, 32, 99, 111, 110, 103, 114, 117, 101, 110, 116, 61, 50, 50, 52, 53, 32, 116, 104, 101, 114, 101, 102, 111, 114, 101, 61, 50, 50, 51, 52, 32, 112, 101, 114, 112, 101, 110, 100, 105, 99, 117, 108, 97, 114, 61, 50, 50, 65, 53]⟩ : ByteArray), (⟨#[115, 105, 109, 105, 108, 97, 114, 61, 50, 50, 51, 67, 32, 109, 105, 110, 117, 116, 101, 61, 50, 48, 51, 50, 32, 99, 108, 117, 98, 61, 50, 54, 54, 51, 32, 100, 105, 97, 109, 111, 110, 100, 61, 50, 54, 54, 54, 32, 104, 101, 97, 114, 116, 61, 50, 54, 54, 53, 32, 115, 112, 97, 100, 101, 61, 50, 54, 54, 48]⟩ : ByteArray), (⟨#[97, 114, 114, 111, 119, 98, 111, 116, 104, 61, 50, 49, 57, 52, 32, 97, 114, 114, 111, 119, 108, 101, 102, 116, 61, 50, 49, 57, 48, 32, 97, 114, 114, 111, 119, 117, 112, 61, 50, 49, 57, 49, 32, 97, 114, 114, 111, 119, 114, 105, 103, 104, 116, 61, 50, 49, 57, 50, 32, 97, 114, 114, 111, 119, 100, 111, 119, 110, 61, 50, 49, 57, 51, 32, 115, 101, 99, 111, 110, 100, 61, 50, 48, 51, 51]⟩ : ByteArray), (⟨#[112, 114, 111, 112, 111, 114, 116, 105, 111, 110, 97, 108, 61, 50, 50, 49, 68, 32, 101, 113, 117, 105, 118, 97, 108, 101, 110, 99, 101, 61, 50, 50, 54, 49, 32, 97, 108, 101, 112, 104, 61, 50, 49, 51, 53, 32, 73, 102, 114, 97, 107, 116, 117, 114, 61, 50, 49, 49, 49, 32, 82, 102, 114, 97, 107, 116, 117, 114, 61, 50, 49, 49, 67, 32, 119, 101, 105, 101, 114, 115, 116, 114, 97, 115, 115, 61, 50, 49, 49, 56]⟩ : ByteArray), (⟨#[99, 105, 114, 99, 108, 101, 109, 117, 108, 116, 105, 112, 108, 121, 61, 50, 50, 57, 55, 32, 99, 105, 114, 99, 108, 101, 112, 108, 117, 115, 61, 50, 50, 57, 53, 32, 101, 109, 112, 116, 121, 115, 101, 116, 61, 50, 50, 48, 53, 32, 105, 110, 116, 101, 114, 115, 101, 99, 116, 105, 111, 110, 61, 50, 50, 50, 57, 32, 117, 110, 105, 111, 110, 61, 50, 50, 50, 65, 32, 112, 114, 111, 112, 101, 114, 115, 117, 112, 101, 114, 115, 101, 116, 61, 50, 50, 56, 51]⟩ : ByteArray), (⟨#[114, 101, 102, 108, 101, 120, 115, 117, 112, 101, 114, 115, 101, 116, 61, 50, 50, 56, 55, 32, 110, 111, 116, 115, 117, 98, 115, 101, 116, 61, 50, 50, 56, 52, 32, 112, 114, 111, 112, 101, 114, 115, 117, 98, 115, 101, 116, 61, 50, 50, 56, 50, 32, 114, 101, 102, 108, 101, 120, 115, 117, 98, 115, 101, 116, 61, 50, 50, 56, 54, 32, 101, 108, 101, 109, 101, 110, 116, 61, 50, 50, 48, 56, 32, 110, 111, 116, 101, 108, 101, 109, 101, 110, 116, 61, 50, 50, 48, 57]⟩ : ByteArray), (⟨#[97, 110, 103, 108, 101, 61, 50, 50, 50, 48, 32, 103, 114, 97, 100, 105, 101, 110, 116, 61, 50, 50, 48, 55, 32, 100, 111, 116, 109, 97, 116, 104, 61, 50, 50, 67, 53, 32, 108, 111, 103, 105, 99, 97, 108, 97, 110, 100, 61, 50, 50, 50, 55, 32, 108, 111, 103, 105, 99, 97, 108, 111, 114, 61, 50, 50, 50, 56, 32, 97, 114, 114, 111, 119, 100, 98, 108, 98, 111, 116, 104, 61, 50, 49, 68, 52]⟩ : ByteArray), (⟨#[97, 114, 114, 111, 119, 100, 98, 108, 108, 101, 102, 116, 61, 50, 49, 68, 48, 32, 97, 114, 114, 111, 119, 100, 98, 108, 117, 112, 61, 50, 49, 68, 49, 32, 97, 114, 114, 111, 119, 100, 98, 108, 114, 105, 103, 104, 116, 61, 50, 49, 68, 50, 32, 97, 114, 114, 111, 119, 100, 98, 108, 100, 111, 119, 110, 61, 50, 49, 68, 51, 32, 97, 110, 103, 108, 101, 108, 101, 102, 116, 61, 50, 51, 50, 57, 32, 97, 110, 103, 108, 101, 114, 105, 103, 104, 116, 61, 50, 51, 50, 65]⟩ : ByteArray), (⟨#[100, 97, 108, 101, 116, 104, 97, 116, 97, 102, 112, 97, 116, 97, 104, 61, 48, 53, 68, 51, 44, 48, 53, 66, 50, 32, 102, 102, 61, 70, 66, 48, 48, 32, 102, 102, 105, 61, 70, 66, 48, 51, 32, 102, 102, 108, 61, 70, 66, 48, 52, 32, 65, 109, 97, 99, 114, 111, 110, 61, 48, 49, 48, 48, 32, 97, 109, 97, 99, 114, 111, 110, 61, 48, 49, 48, 49]⟩ : ByteArray), (⟨#[65, 98, 114, 101, 118, 101, 61, 48, 49, 48, 50, 32, 97, 98, 114, 101, 118, 101, 61, 48, 49, 48, 51, 32, 76, 99, 111, 109, 109, 97, 97, 99, 99, 101, 110, 116, 61, 48, 49, 51, 66]⟩ : ByteArray)] : List ByteArray))
set_option maxHeartbeats 8000000 in
set_option maxRecDepth 100000 in
theorem glyph_part2.calls  (r : List ByteArray) (w : World) (h : glyph_part2.f  = some r) :
  Calls Tryz.prog 125 #[] w fun e w' => ∃ v0_ : Value, e = .returned (v0_) ∧ Kd.R Kd.string 9 w' w.heap.size (fun _ => True) v0_ r ∧ Below w.heap.size w w' := by
 have HB := aM (Below.refl w.heap.size w)
 have Ny136 := aM (Option.some.inj (show some _ = some r from h)).symm
 clear h
 go_enter Tryz.func125, Tryz.ntmps125
 go_wp2_with (first | ((with_reducible refine gD 1 ?_); refine Kd.R_lit Kd.string _ 9 ?hg (N := 1) ?hd (xs := r) (inner := r.map Value.string) (ok := fun _ => True) (okp := fun _ => True) ?hr ?hp (fun _ hk => hk) trivial (Below.refl _ _) (Nat.le_refl _) (by rw [Ny136.out]; simp) ?_; (case hd => rfl); (case hg => rfl); (case hr => rw [Ny136.out]; simp only [List.map_cons, List.map_nil]; first | (go_simp; done) | (go_simp; rfl)); (case hp => exact repsS _ _ _ r); intro v137 w1 ho2 hb hg_ hnew_; clear hg_ hnew_; have HO138 := lK ho2; replace HB := sB hb; clear hb ho2))
 go_ret
 exact ⟨_, eQ, mQ HO138, bQ⟩
end Go.Proofs.YtdcldaknmenklaaGreatDoor.M
end
section
namespace Go.Proofs.YtdcldaknmenklaaGreatDoor.M
open Go.RowKit Go.Proofs.YtdcldaknmenklaaGreatDoorW.PrintWords
set_option linter.unusedVariables false
def joinB (l : List ByteArray) (sep : ByteArray) : List UInt8 := Lib.join (l.map (·.data.toList)) sep.data.toList
def strings_Join.f (l0 : List ByteArray) (a1 : ByteArray) : Option ByteArray := if l0.length ≤ 140737488355328 ∧ (joinB l0 a1).length ≤ 140737488355328 then some ⟨(joinB l0 a1).toArray⟩ else none
theorem strings_Join.calls (A0 : Option Addr) (c0 : Nat) (l0 : List ByteArray) (a1 : ByteArray) (r : ByteArray) (w : World) (hr0 : Kd.C Kd.string w A0 l0.length l0) (hc0 : l0.length ≤ c0) (h : strings_Join.f l0 a1 = some r) :
  Calls Tryz.prog 34 #[.slice A0 l0.length c0, .string a1] w fun e w' => e = .returned (.string r) ∧ Below w.heap.size w w' := by
 unfold strings_Join.f at h
 split at h
 case isFalse => cases h
 rename_i hb
 obtain rfl := Option.some.inj h
 by_cases h0 : l0 = []
 ·subst h0
  refine (Tryz.strings_Join_none A0 c0 a1 w).mono ?_
  rintro e w' ⟨rfl, rfl⟩
  exact ⟨rfl, Below.refl _ _⟩
 ·obtain ⟨b, o, rfl, hbk, hcell⟩ := strings_read hr0 (List.length_pos_iff.2 h0)
  refine (Tryz.strings_Join b o c0 l0 a1 w hcell hbk hb.1 hc0 hb.2).mono ?_
  rintro e w' ⟨rfl, hbw⟩
  exact ⟨rfl, hbw⟩
end Go.Proofs.YtdcldaknmenklaaGreatDoor.M
end
section
namespace Go.Proofs.YtdcldaknmenklaaGreatDoor.M
open Go.RowKit Go.Proofs.YtdcldaknmenklaaGreatDoorW.PrintWords Go.Proofs.YtdcldaknmenklaaGreatDoorW.PrintLast Go.Proofs.YtdcldaknmenklaaGreatDoorW.PrintMore
attribute [local go_sem] max2_int min2_int max_two min_two max_three min_three max_four min_four
set_option linter.unusedVariables false
set_option linter.unusedSimpArgs false
def glyph_list.f (k : Nat)  : Option (ByteArray) := (glyph_part1.f).bind fun t139 => ((glyph_part2.f).bind fun t142 => ((slices_Concat_string_string.f k (([t139, t142] : List (List ByteArray)))).bind fun t148 => ((strings_Join.f t148 (⟨#[32]⟩ : ByteArray)).bind fun t151 => (if 1 + t151.size ≤ 9223372036854775807 then (if ((⟨#[32]⟩ : ByteArray) ++ t151).size + 1 ≤ 9223372036854775807 then (some (((⟨#[32]⟩ : ByteArray) ++ t151) ++ (⟨#[32]⟩ : ByteArray))) else (none)) else (none)))))
theorem glyph_list.mono : ∀ k, LeO (glyph_list.f k ) (glyph_list.f (k + 1) ) := by
 intro  k
 unfold glyph_list.f
 repeat' first
   | (with_reducible exact slices_Concat_string_string.mono _ _)
   | (with_reducible exact LeO.refl _)
   | (with_reducible exact LeO.none _)
   | (with_reducible refine LeO.ite ?_ ?_)
   | (with_reducible refine LeO.bind ?_ (fun _ => ?_))
   | exact slices_Concat_string_string.mono _ _
   | exact LeO.none _
   | refine LeO.ite ?_ ?_
   | refine LeO.bind ?_ (fun _ => ?_)
set_option maxHeartbeats 8000000 in
set_option maxRecDepth 100000 in
theorem glyph_list.calls (k : Nat)  (r : ByteArray) (w : World) (h : glyph_list.f k  = some r) :
  Calls Tryz.prog 104 #[] w fun e w' => e = .returned (.string r) ∧ Below w.heap.size w w' := by
 have HB := aM (Below.refl w.heap.size w)
 have H : ((glyph_part1.f).bind fun t139 => ((glyph_part2.f).bind fun t142 => ((slices_Concat_string_string.f k (([t139, t142] : List (List ByteArray)))).bind fun t148 => ((strings_Join.f t148 (⟨#[32]⟩ : ByteArray)).bind fun t151 => (if 1 + t151.size ≤ 9223372036854775807 then (if ((⟨#[32]⟩ : ByteArray) ++ t151).size + 1 ≤ 9223372036854775807 then (some (((⟨#[32]⟩ : ByteArray) ++ t151) ++ (⟨#[32]⟩ : ByteArray))) else (none)) else (none)))))) = some r := h
 clear h
 replace H := bS H
 obtain ⟨t139, A1, H⟩ := H
 try dsimp only at H
 replace H := bS H
 obtain ⟨t142, A2, H⟩ := H
 try dsimp only at H
 obtain ⟨y145, hy145⟩ : ∃ y_ : List (List ByteArray), y_ = (([t139, t142] : List (List ByteArray))) := ⟨_, rfl⟩
 replace H : ((slices_Concat_string_string.f k y145).bind fun t148 => ((strings_Join.f t148 (⟨#[32]⟩ : ByteArray)).bind fun t151 => (if 1 + t151.size ≤ 9223372036854775807 then (if ((⟨#[32]⟩ : ByteArray) ++ t151).size + 1 ≤ 9223372036854775807 then (some (((⟨#[32]⟩ : ByteArray) ++ t151) ++ (⟨#[32]⟩ : ByteArray))) else (none)) else (none)))) = some r := by first | (rw [hy145]; with_reducible exact H) | (have H2_ := (Option.bind_some _ _).symm.trans H; rw [hy145]; with_reducible exact H2_) | (have H2_ := (Option.bind_some _ _).symm.trans H; with_reducible exact H2_) | with_reducible exact H | (rw [hy145]; exact H) | exact H
 have Ny145 := aM hy145
 clear hy145
 replace H := bS H
 obtain ⟨t148, A3, H⟩ := H
 try dsimp only at H
 replace H := bS H
 obtain ⟨t151, A4, H⟩ := H
 try dsimp only at H
 refine iNc H ?_ ?_<;>clear H<;>intro H c5
 rotate_left
 ·exact absurd H (by simp)
 have c5b0 := eq_true c5
 have c5b1 : decide (1 + t151.size ≤ 9223372036854775807) = true := decide_eq_true c5
 try have c5b2 : (9223372036854775807 < 1 + t151.size) = False := eq_false (Nat.not_lt.2 c5)
 refine iNc H ?_ ?_<;>clear H<;>intro H c6
 rotate_left
 ·exact absurd H (by simp)
 have c6b0 := eq_true c6
 have c6b1 : decide (((⟨#[32]⟩ : ByteArray) ++ t151).size + 1 ≤ 9223372036854775807) = true := decide_eq_true c6
 try have c6b2 : (9223372036854775807 < ((⟨#[32]⟩ : ByteArray) ++ t151).size + 1) = False := eq_false (Nat.not_lt.2 c6)
 try have c6b9 : (9223372036854775807 < (1 + t151.size) + 1) = False := eq_false (Nat.not_lt.2 (by have h_ := c6; (repeat rw [ByteArray.size_append] at h_); exact h_))
 obtain rfl := Option.some.inj H
 go_enter Tryz.func104, Tryz.ntmps104
 go_wp2_with (first | ((with_reducible refine gC 124 ?_); refine gL (some 1) Tryz.func124 #[] ?_; (with_reducible refine (glyph_part1.calls  t139 _ A1.out).mono ?_); rintro e w7 ⟨v140, rfl, ho0, hb⟩; refine ⟨_, rfl, ?_⟩; have HO141 := lK ho0; replace HB := sB hb; clear hb ho0) | ((with_reducible refine gC 125 ?_); refine gL (some 2) Tryz.func125 #[] ?_; (with_reducible refine (glyph_part2.calls  t142 _ A2.out).mono ?_); rintro e w8 ⟨v143, rfl, ho0, hb⟩; refine ⟨_, rfl, ?_⟩; have HO144 := nK ho0 HO141; replace HO141 := eK HO141 ho0 hb; replace HB := sB hb; clear hb ho0; obtain ⟨Ao9, co9, eo9⟩ := Kd.R_slice HO141.out; subst eo9; obtain ⟨Ao10, co10, eo10⟩ := Kd.R_slice HO144.out; subst eo10) | ((with_reducible refine gD 3 ?_); refine Kd.N_lit (Kd.slice 9 Kd.string) _ 25 ?hg (N' := 3) ?hd (xs := ([t139, t142] : List (List ByteArray))) (inner := [.slice Ao9 t139.length co9, .slice Ao10 t142.length co10]) (ok := (fun _ => True)) (okp := (fun _ => True)) ?hr ?hp (fun _ hk => hk) ((show ∀ k_, w8.heap.size ≤ k_ → (fun _ => True) k_ from fun k_ hk => trivial) _ (Nat.le_refl _)) (Below.refl _ _) (Nat.le_refl _) (by simp) ?_; (case hd => rfl); (case hg => rfl); (case hr => first | (go_simp; done) | (go_simp; rfl)); (case hp => exact (Reps.one (show Kd.FK (Kd.slice 9 Kd.string) _ _ t139 [.slice Ao9 t139.length co9] from (Kd.FK_slice_mk (Kd.R_reads' (Kd.R_mono (ok' := (fun _ => True)) (HO141.out) (fun k_ hk => trivial))).2.1 (Kd.R_F (Kd.R_mono (ok' := (fun _ => True)) (HO141.out) (fun k_ hk => trivial))))) (Reps.one (show Kd.FK (Kd.slice 9 Kd.string) _ _ t142 [.slice Ao10 t142.length co10] from (Kd.FK_slice_mk (Kd.R_reads' (Kd.R_mono (ok' := (fun _ => True)) (HO144.out) (fun k_ hk => trivial))).2.1 (Kd.R_F (Kd.R_mono (ok' := (fun _ => True)) (HO144.out) (fun k_ hk => trivial))))) (Reps.none _ _)))); intro v146 w11 ho12 hb hg_ hnew_; clear hg_ hnew_; (first | rw [← Ny145.out] at ho12 | (simp only [Int.reduceToNat] at ho12; rw [← Ny145.out] at ho12)); have n0_ := aM (Kd.N_lower ho12 (below_size bQ)); have n1_ := sB hb; clear HB; clear HO141; clear HO144; have HO147 := n0_; have HB := n1_; clear n0_ n1_; clear hb ho12; obtain ⟨Ao13, co13, eo13⟩ := Kd.N_slice HO147.out; subst eo13) | ((with_reducible refine gC 123 ?_); refine gL (some 4) Tryz.func123 #[.slice Ao13 y145.length co13] ?_; (with_reducible refine (slices_Concat_string_string.calls k _ _ y145 t148 _ ?side1 ?side2 A3.out).mono ?_); (case side1 => repeat (first | exact (Kd.N_reads' HO147.out).2.2 | (with_reducible first|refine Kd.C_alloc ?_ _|refine Kd.C_drewN ?_ _|refine Kd.C_drew ?_))); (case side2 => exact (Kd.N_reads' HO147.out).2.1); rintro e w14 ⟨v149, rfl, ho0, hb⟩; refine ⟨_, rfl, ?_⟩; replace HO147 := aM (Kd.N_elder' (by (with_reducible repeat (first | apply Kd.N_alloc | apply Kd.N_drewN | apply Kd.N_drew)); exact HO147.out) (Kd.R_base ho0) hb); have HO150 := lK ho0; replace HB := sB hb; clear hb ho0; obtain ⟨Ao15, co15, eo15⟩ := Kd.R_slice HO150.out; subst eo15) | ((with_reducible refine gC 34 ?_); refine gL (some 5) Tryz.func34 #[.slice Ao15 t148.length co15, .string (⟨#[32]⟩ : ByteArray)] ?_; (with_reducible refine cB (strings_Join.calls _ _ t148 (⟨#[32]⟩ : ByteArray) t151 _ ?side1 ?side2 A4.out) ?_); (case side1 => exact cQ HO150); (case side2 => exact (Kd.R_reads' HO150.out).2.1); intro w16 hb; replace HO147 := aM (Kd.N_below (by (with_reducible repeat (first | apply Kd.N_alloc | apply Kd.N_drewN | apply Kd.N_drew)); exact HO147.out) hb); replace HO150 := rK HO150 hb; replace HB := sB hb; clear hb))
 go_ret
 exact ⟨eQ, bQ⟩
end Go.Proofs.YtdcldaknmenklaaGreatDoor.M
end
section
namespace Go.Proofs.YtdcldaknmenklaaGreatDoor.M
open Go.RowKit Go.Proofs.YtdcldaknmenklaaGreatDoorW.PrintWords
set_option linter.unusedVariables false
def isAscii (l : List UInt8) : Bool := l.all fun b => decide (b.toNat < 128)
def fieldsB (a0 : ByteArray) : List ByteArray := (Lib.fields a0.data.toList).map fun l => ⟨l.toArray⟩
def strings_Fields.f (a0 : ByteArray) : Option (List ByteArray) := if a0.size < 4294967281 ∧ isAscii a0.data.toList = true ∧ (fieldsB a0).length ≤ 8796093022208 then some (fieldsB a0) else none
theorem strings_Fields.calls (a0 : ByteArray) (r : List ByteArray) (w : World) (hG : GW w) (h : strings_Fields.f a0 = some r) :
  Calls Tryz.prog 74 #[.string a0] w fun e w' => ∃ v0_ : Value, e = .returned (v0_) ∧ Kd.R Kd.string 9 w' w.heap.size (fun _ => True) v0_ r ∧ Below w.heap.size w w' := by
 unfold strings_Fields.f at h
 split at h
 case isFalse => cases h
 rename_i hb
 obtain rfl := Option.some.inj h
 obtain ⟨hb1, hb2, hb3⟩ := hb
 have hl : (fieldsB a0).length = (Lib.fields a0.data.toList).length := by simp [fieldsB]
 refine (Tryz.strings_Fields a0 w hb1 ?_ hG.space).mono ?_
 ·intro j b hj
  have := List.all_eq_true.1 hb2 b (List.mem_of_getElem? hj)
  simpa using this
 ·rintro e w' ⟨rfl, rfl⟩
  exact ⟨_, rfl, strings_fresh w (fieldsB a0) _ _ _ hl (Nat.le_refl _) (by unfold maxLen; omega) (by simp) (by rw [List.take_of_length_le (by simp)]; simp [fieldsB]), below_alloc (Below.refl _ _) _⟩
def strings_Cut.f (a0 a1 : ByteArray) : Option (ByteArray × ByteArray × Bool) := if a0.size < 4294967281 then some (⟨(Lib.cut a0.data.toList a1.data.toList).1.toArray⟩, ⟨(Lib.cut a0.data.toList a1.data.toList).2.1.toArray⟩, (Lib.cut a0.data.toList a1.data.toList).2.2) else none
theorem strings_Cut.calls (a0 a1 : ByteArray) (r1 r2 : ByteArray) (r3 : Bool) (w : World) (hG : GW w) (h : strings_Cut.f a0 a1 = some (r1, r2, r3)) :
  Calls Tryz.prog 75 #[.string a0, .string a1] w fun e w' => e = .returned (.tuple #[.string r1, .string r2, .bool r3]) ∧ Below w.heap.size w w' := by
 unfold strings_Cut.f at h
 split at h
 case isFalse => cases h
 rename_i hb
 have h' := Option.some.inj h
 simp only [Prod.mk.injEq] at h'
 obtain ⟨rfl, rfl, rfl⟩ := h'
 obtain ⟨m, hm⟩ := hG.max
 refine (Tryz.strings_Cut a0 a1 m w hb hm).mono ?_
 rintro e w' ⟨rfl, n, rfl⟩
 exact ⟨rfl, pw_below_drewN (Below.refl _ _) n⟩
end Go.Proofs.YtdcldaknmenklaaGreatDoor.M
end
section
namespace Go.Proofs.YtdcldaknmenklaaGreatDoor.M
open Go.RowKit Go.Proofs.YtdcldaknmenklaaGreatDoorW.PrintWords Go.Proofs.YtdcldaknmenklaaGreatDoorW.PrintLast Go.Proofs.YtdcldaknmenklaaGreatDoorW.PrintMore
attribute [local go_sem] max2_int min2_int max_two min_two max_three min_three max_four min_four
set_option linter.unusedVariables false
set_option linter.unusedSimpArgs false
def glyph_Names.l0 : Nat → List ByteArray → List ByteArray → Int → Int → Option (List ByteArray)
 | 0, _, _, _, _ => none
 | k + 1, x1, x8, x9, x10 => if x10 < x9 then (if 0 ≤ x10 then (if x10 < (x8.length : Int) then ((strings_Cut.f (rdOf ByteArray.empty x8 x10) (⟨#[61]⟩ : ByteArray)).bind fun bt157 => (if x1.length < 8796093022208 then (glyph_Names.l0 k (x1 ++ [bt157.1]) x8 x9 (wrap64 (x10 + 1))) else (none))) else (none)) else (none)) else (some x1)
def glyph_Names.f (k : Nat)  : Option (List ByteArray) := (glyph_list.f k).bind fun t152 => ((strings_Fields.f t152).bind fun t153 => (glyph_Names.l0 k ([] : List ByteArray) t153 (t153.length : Int) 0))
theorem glyph_Names.mono_l : ∀ k, (∀ y0 y1 y2 y3, LeO (glyph_Names.l0 k y0 y1 y2 y3) (glyph_Names.l0 (k + 1) y0 y1 y2 y3))
 | 0 => fun _ _ _ _ r h => by simp [glyph_Names.l0] at h
 | k + 1 => by
  have ih0 := glyph_Names.mono_l k
  ·intro y0 y1 y2 y3
   unfold glyph_Names.l0
   repeat' first
   | (with_reducible exact ih0 _ _ _ _)
   | (with_reducible exact glyph_list.mono _)
   | (with_reducible exact LeO.refl _)
   | (with_reducible exact LeO.none _)
   | (with_reducible refine LeO.ite ?_ ?_)
   | (with_reducible refine LeO.bind ?_ (fun _ => ?_))
   | exact ih0 _ _ _ _
   | exact glyph_list.mono _
   | exact LeO.none _
   | refine LeO.ite ?_ ?_
   | refine LeO.bind ?_ (fun _ => ?_)
theorem glyph_Names.mono : ∀ k, LeO (glyph_Names.f k ) (glyph_Names.f (k + 1) ) := by
 intro  k
 have ih0 := glyph_Names.mono_l k
 unfold glyph_Names.f
 repeat' first
   | (with_reducible exact ih0 _ _ _ _)
   | (with_reducible exact glyph_list.mono _)
   | (with_reducible exact LeO.refl _)
   | (with_reducible exact LeO.none _)
   | (with_reducible refine LeO.ite ?_ ?_)
   | (with_reducible refine LeO.bind ?_ (fun _ => ?_))
   | exact ih0 _ _ _ _
   | exact glyph_list.mono _
   | exact LeO.none _
   | refine LeO.ite ?_ ?_
   | refine LeO.bind ?_ (fun _ => ?_)
set_option maxHeartbeats 8000000 in
set_option maxRecDepth 100000 in
theorem glyph_Names.calls (k : Nat)  (r : List ByteArray) (w : World) (hG : GW w) (h : glyph_Names.f k  = some r) :
  Calls Tryz.prog 73 #[] w fun e w' => ∃ v0_ : Value, e = .returned (v0_) ∧ Kd.R Kd.string 9 w' w.heap.size (fun _ => True) v0_ r ∧ Below w.heap.size w w' := by
 have HG := aM hG
 clear hG
 have HB := aM (Below.refl w.heap.size w)
 have H : ((glyph_list.f k).bind fun t152 => ((strings_Fields.f t152).bind fun t153 => (glyph_Names.l0 k ([] : List ByteArray) t153 (t153.length : Int) 0))) = some r := h
 clear h
 replace H := bS H
 obtain ⟨t152, A1, H⟩ := H
 try dsimp only at H
 replace H := bS H
 obtain ⟨t153, A2, H⟩ := H
 try dsimp only at H
 have H' := aM H
 clear H
 go_enter Tryz.func73, Tryz.ntmps73
 go_wp2_with (first | ((with_reducible refine gC 104 ?_); refine gL (some 7) Tryz.func104 #[] ?_; (with_reducible refine cB (glyph_list.calls k  t152 _ A1.out) ?_); intro w3 hb; replace HB := sB hb; clear hb) | ((with_reducible refine gC 74 ?_); refine gL (some 8) Tryz.func74 #[.string t152] ?_; (with_reducible refine (strings_Fields.calls t152 t153 _ ?side1 A2.out).mono ?_); (case side1 => exact gQ HG.out); rintro e w4 ⟨v154, rfl, ho0, hb⟩; refine ⟨_, rfl, ?_⟩; have HO155 := lK ho0; replace HB := sB hb; clear hb ho0; obtain ⟨Ao5, co5, eo5⟩ := Kd.R_slice HO155.out; subst eo5))
 go_loopg [1, 10] k (fun kq v1 v10 w' => ∃ (x1_1 : List ByteArray) (x10_1 : Int), v10 = .int .i64 x10_1 ∧ Aside0 (glyph_Names.l0 kq x1_1 t153 (t153.length : Int) x10_1 = some r) ∧ Aside0 (kq ≤ k) ∧ Aside0 (Kd.R Kd.string 9 w' w.heap.size (fun k_ => some k_ ≠ ((.slice Ao5 t153.length co5) : Value).ownBlock) v1 x1_1) ∧ Aside0 (Kd.R Kd.string 9 w' w.heap.size (fun k_ => some k_ ≠ (v1 : Value).ownBlock) (.slice Ao5 t153.length co5) t153) ∧ Aside0 (Below w.heap.size w w'))
 case atStart => exact ⟨(([] : List ByteArray)), (0), vQ, H', ⟨Nat.le_refl _⟩, ⟨by first | exact Kd.R_nil _ _ _ _ _ | exact Kd.N_nil _ _ _ _ _ | exact Kd.V_nil _ _ _ _ _ | exact Kd.Q_nil _ _ _ _ _ | exact Kd.S_nil _ _ _ _ _⟩, ⟨by (with_reducible repeat first|apply rA|apply rD|apply r1); exact Kd.R_mono HO155.out (fun _ hk => (by simp [Value.ownBlock]))⟩, ⟨bQ⟩⟩
 case round =>
  clear H'
  try clear c1
  try clear p2
  obtain ⟨x1_1, x10_1, rfl, HA, HK1, HO_1, HO_8, HB⟩ := hrel
  cases gk with
  | zero => exact absurd HA.out (by simp [glyph_Names.l0])
  | succ k1 =>
   have H := HA.out
   clear HA
   simp only [glyph_Names.l0] at H
   refine iD H ?_ ?_<;>clear H<;>intro H c6b0
   rotate_left
   ·obtain rfl := Option.some.inj H
    go_wp2
    go_ret
    exact ⟨_, eQ, by (with_reducible repeat first|apply rA|apply rD|apply r1); exact Kd.R_mono HO_1.out (fun _ hk => trivial), bQ⟩
   refine iD H ?_ ?_<;>clear H<;>intro H c7b0
   rotate_left
   ·exact absurd H (by simp)
   refine iD H ?_ ?_<;>clear H<;>intro H c8b0
   rotate_left
   ·exact absurd H (by simp)
   replace H := bS H
   obtain ⟨⟨t157, t158, t159⟩, A9, H⟩ := H
   try dsimp only at H
   refine iNc H ?_ ?_<;>clear H<;>intro H c10
   rotate_left
   ·exact absurd H (by simp)
   have LMc10 := aM c10
   clear c10
   obtain ⟨y160, hy160⟩ : ∃ y_ : List ByteArray, y_ = (x1_1 ++ [t157]) := ⟨_, rfl⟩
   replace H : (glyph_Names.l0 k1 y160 t153 (t153.length : Int) (wrap64 (x10_1 + 1))) = some r := by first | (rw [hy160]; with_reducible exact H) | (have H2_ := (Option.bind_some _ _).symm.trans H; rw [hy160]; with_reducible exact H2_) | (have H2_ := (Option.bind_some _ _).symm.trans H; with_reducible exact H2_) | with_reducible exact H | (rw [hy160]; exact H) | exact H
   have Ny160 := aM hy160
   clear hy160
   have H' := aM H
   clear H
   have p156 : 0 ≤ (x10_1 : Int) := of_decide_eq_true hQ
   have q156 : x10_1 < (t153.length : Int) := of_decide_eq_true hQ
   obtain ⟨ad156, e156, hx156_0⟩ := Kd.at_string (Kd.R_reads' HO_8.out).2.2 x10_1 p156 q156
   cases e156
   replace p156 := eq_true p156
   replace q156 := eq_true q156
   go_wp2_with (first | ((with_reducible refine gC 75 ?_); refine gL (some 16) Tryz.func75 #[.string (rdOf ByteArray.empty t153 x10_1), .string (⟨#[61]⟩ : ByteArray)] ?_; (with_reducible refine cB (strings_Cut.calls (rdOf ByteArray.empty t153 x10_1) (⟨#[61]⟩ : ByteArray) t157 t158 t159 _ ?side1 A9.out) ?_); (case side1 => exact gQ HG.out); intro w11 hb; replace HO_1 := rK HO_1 hb; replace HO_8 := rK HO_8 hb; replace HB := sB hb; clear hb) | ((with_reducible refine gate_builtin (b := .append) (xs := #[.tmp 20, .tmp 22]) rfl ?_); at_builtin; refine Kd.R_append Kd.string (w0 := w) w.heap.size rfl (.tmp 20) (.tmp 22) 25 9 (.string ⟨#[]⟩) 16 rfl Tryz.underlying25 info9 rfl (by decide) (by omega) u1 x1_1 t157 [.string t157] (fun k_ => some k_ ≠ (.slice (some ad156) t153.length co5 : Value).ownBlock) (fun _ => False) rfl rfl ?aP (fun _ hk => hk.elim) ?aF ?aO ?aB ?aS ?aL ?_; (case aP => exact rfl); (case aB => exact bQ); (case aF => exact (fun k_ hk => Kd.fresh' (Kd.R_lt (mQ HO_8)) k_ hk)); (case aO => exact (mQ HO_1)); (case aS => exact (below_size bQ)); (case aL => have := LMc10.out; omega); intro v161 w12 ho hb hg hat; rw [← Ny160.out] at ho; have n0_ := aM (Kd.R_after (ok := (fun _ => True)) (by (with_reducible repeat first|apply rA|apply rD|apply r1); exact Kd.R_mono HO_8.out (fun _ hk => ⟨trivial, hk⟩)) hg hat); have n1_ := aM hb; have n2_ := aM ho; clear HO_8; clear HB; clear HO_1; have HO_8 := n0_; have HB := n1_; have HO162 := n2_; clear n0_ n1_ n2_; clear ho hb hg hat))
   go_roundg k1
   case measure => have := HK1.out; omega
   case rel => exact ⟨(y160), (wrap64 (x10_1 + 1)), vQ, H', ⟨by have := HK1.out; omega⟩, ⟨mQ HO162⟩, ⟨by (with_reducible repeat first|apply rA|apply rD|apply r1); exact Kd.R_mono HO_8.out (fun _ hk => hk.2)⟩, ⟨bQ⟩⟩
end Go.Proofs.YtdcldaknmenklaaGreatDoor.M
end
section
namespace Go.Proofs.YtdcldaknmenklaaGreatDoor.M
open Go.RowKit Go.Proofs.YtdcldaknmenklaaGreatDoorW.PrintWords Go.Proofs.YtdcldaknmenklaaGreatDoorW.PrintLast Go.Proofs.YtdcldaknmenklaaGreatDoorW.PrintMore
set_option linter.unusedVariables false
set_option linter.unusedSimpArgs false
set_option maxHeartbeats 1000000 in
set_option maxRecDepth 1000000 in
theorem enc_ascii_calls (k : Nat) (nm : List ByteArray) (hnm : glyph_Names.f k = some nm) (hlen : 95 ≤ nm.length) (w : World) (hG : GW w) :
  Calls Tryz.prog 47 #[] w fun e w' => e = .returned (.agg (namesV (asciiL nm))) ∧ Below w.heap.size w w' := by
 have HN := Aside0.mk hnm
 clear hnm
 have HG := Aside0.mk hG
 clear hG
 go_enter Tryz.func47, Tryz.ntmps47
 go_wp2
 rw [zero_names]
 generalize hzz : namesV (List.replicate 256 noName) = Z
 have hz256 : Z.size = 256 := by rw [← hzz, namesV_size, List.length_replicate]
 have HZ := Aside0.mk hzz
 clear hzz
 have hdrew : ∀ W : World, W.drew.heap = W.heap := fun _ => rfl
 refine start_ (n := 3) (S := fun _ => True) (ds := []) #[false, false, false] (by kernel_rfl) rfl rfl trivial (fun _ => ?_)
 refine pure_ (i := 0) (N := some 2) (v := .slice (some ⟨w.heap.size + 1, 32, none⟩) 95 224) (a' := ?_) #[true, false, false] rfl rfl (by kernel_rfl) (fun _ _ _ h => h) (Or.inl ⟨by rfl, ?_⟩) ?_ ?_
 ·intro w'
  go_simp
 rotate_left
 ·simp only [Act.put, List.setIfInBounds_toArray, List.set_cons_zero, List.set_cons_succ]
  rfl
 refine one_ (i := 1) (N := some 3) #[true, true, false] rfl rfl (by kernel_rfl) (by decide) (fun K hK => ?_)
 refine call_ 73 #[] rfl rfl ?_ ?_
 ·simp only [List.getElem_toArray, List.getElem_cons_succ, List.getElem_cons_zero]
  unfold execOp
  simp only [resolve, invoke, Sem.run_bind, Sem.run_pure, Result.andThen_ok, List.map_toArray, List.map_nil, Act.eval]
  exact enters_ Tryz.func73 rfl rfl #[] _
 refine (glyph_Names.calls k nm _ ((HG.out.alloc _).alloc _).drew HN.out).mono ?_
 rintro e w1 ⟨v0, rfl, hR, hb⟩
 refine ⟨_, rfl, hK.out _ _ trivial (fun _ => ?_)⟩
 clear hK
 have hsz2 : ((w.alloc (Obj.cells Z 73)).alloc (Obj.cells Z 73)).drew.heap.size = w.heap.size + 2 := by
  show ((w.heap.push _).push _).size = _
  simp
 have hg1 : w1.heap[w.heap.size + 1]? = some (.cells Z 73 (0, 0)) :=
  (hb.block (w.heap.size + 1) (by rw [hsz2]; omega)).trans (heap_alloc2_new w _ _)
 have hg0 : w1.heap[w.heap.size]? = some (.cells Z 73 (0, 0)) := by
  refine (hb.block w.heap.size (by rw [hsz2]; omega)).trans ?_
  show ((w.heap.push _).push _)[w.heap.size]? = _
  rw [Array.getElem?_push, if_neg (by simp), Array.getElem?_push_size]
 have hbw : Below w.heap.size w w1 := by
  exact below_step (below_drew (below_alloc (below_alloc (Below.refl _ w) _) _)) hb
 obtain ⟨ROW, hROW⟩ : ∃ R : Array Value, R = namesV (asciiL nm) := ⟨_, rfl⟩
 have hsz : ROW.size = 256 := by rw [hROW, namesV_size, asciiL_length nm hlen]
 have hone : ROW.all (·.oneCell') = true := by rw [hROW]; exact namesV_one _
 refine one_ (i := 2) (N := some 4) #[true, true, true] rfl rfl (by kernel_rfl) (by decide) (fun K hK => ?_)
 rw [if_pos (by rfl)]
 have hrun : ∀ ty, (Builtin.copy_ #[25, 25] ty #[.slice (some ⟨w.heap.size + 1, 32, none⟩) 95 224, v0]).run Tryz.prog w1 = .ok (goInt 95) (w1.setRow (w.heap.size + 1) ROW) := by
  intro ty
  obtain ⟨A, c, rfl⟩ := Kd.R_slice hR
  obtain ⟨-, -, hC⟩ := Kd.R_reads' hR
  obtain ⟨b, o, rfl, hbk, hcell⟩ := strings_read hC (by omega)
  have h95 : ((nm.take 95).map Value.string).length = 95 := by simp; omega
  have := run_copy_row (P := Tryz.prog) w1 25 25 ty 9 (w.heap.size + 1) 32 95 224 ⟨b, o, none⟩ nm.length c Z 73 ((nm.take 95).map Value.string) Tryz.underlying25 (by kernel_rfl) hg1
   (by rw [h95]; exact (Nat.min_eq_right hlen).symm)
   (by
    intro j v hj
    rw [List.getElem?_map] at hj
    obtain ⟨x, hx, rfl⟩ := Option.map_eq_some_iff.1 hj
    have hx' : nm[j]? = some x := by
     rw [List.getElem?_take] at hx
     split at hx
     ·exact hx
     ·cases hx
    have := hcell j x hx'
    by_cases e0 : j = 0
    ·subst e0; simpa [Addr.add] using this
    ·simpa [Addr.add, e0] using this)
   (by rw [h95, hz256]; omega)
   (by
    intro v hv
    obtain ⟨x, -, rfl⟩ := List.mem_map.1 hv
    rfl)
  rw [h95] at this
  rw [this, hROW, ← ascii_row nm hlen, HZ.out]
  rfl
 refine Lib.wp_copy_run w1 (.tmp 2) (.tmp 3) 25 25 rfl _ v0 rfl rfl (hrun _) ?_
 refine hK.out _ _ trivial (fun _ => ?_)
 clear hK
 refine norm_ (a' := ?_) ?_ ?_
 rotate_left
 ·show Act.put (Act.put _ (some 3) _) (some 4) _ = _
  simp only [Act.put, List.setIfInBounds_toArray, List.set_cons_zero, List.set_cons_succ]
  rfl
 refine done_ (by kernel_rfl) ?_
 have hA : (w1.setRow (w.heap.size + 1) ROW).heap[w.heap.size + 1]? = some (.cells ROW 73 (0, 0)) := setRow_heap w1 _ _ ROW 73 (0, 0) hg1
 have hB : (w1.setRow (w.heap.size + 1) ROW).heap[w.heap.size]? = some (.cells Z 73 (0, 0)) := by
  rw [heap_setRow_ne _ _ _ _ (by omega)]; exact hg0
 have hbw2 : Below w.heap.size w (w1.setRow (w.heap.size + 1) ROW) := below_setRow hbw (by omega) _
 have HROW := Aside0.mk hROW
 have HBW := Aside0.mk hbw2
 clear hROW hrun hbw hbw2 hg0 hg1 hb hR hdrew
 generalize w1.setRow (w.heap.size + 1) ROW = w2 at hA hB HBW ⊢
 go_wp2_with (first | (refine wpList_load_row rfl 73 (.tmp 1) rfl (w.heap.size + 1) rfl 73 ROW (0, 0) _ hA Tryz.underlying73 rfl (by rw [hsz]; kernel_rfl) ?_) | (refine wpList_store_row rfl 73 (.tmp 0) (.tmp 5) rfl w.heap.size ROW rfl rfl 73 _ hB (by rw [hsz]; kernel_rfl) (by rw [hsz]; exact hz256) hone ?_))
 refine bodyPost_ret (v := .agg ROW) ?_ rfl ⟨by rw [HROW.out], below_setRow HBW.out (Nat.le_refl _) _⟩
 exact results_cell_row (fn := Tryz.f47) (p := 0) (ty := 73) rfl _ _ w.heap.size 73 ROW (0, 0) _ rfl (setRow_heap w2 _ _ ROW 73 (0, 0) hB) Tryz.underlying73 rfl (by rw [hsz]; kernel_rfl)
end Go.Proofs.YtdcldaknmenklaaGreatDoor.M
end
section
namespace Go.Proofs.YtdcldaknmenklaaGreatDoor.M
open Go.RowKit Go.Proofs.YtdcldaknmenklaaGreatDoorW.PrintWords
set_option linter.unusedVariables false
def atoiN (a0 : ByteArray) : Option Int := if a0.size ≤ 18 then Lib.atoi a0.data.toList else none
theorem strconv_Atoi_calls (a0 : ByteArray) (r : Int) (w : World) (h : atoiN a0 = some r) :
  Calls Tryz.prog 76 #[.string a0] w fun e w' => e = .returned (.tuple #[.int .i64 r, .nilIface]) ∧ Below w.heap.size w w' := by
 unfold atoiN at h
 split at h
 case isFalse => cases h
 rename_i hb
 refine (Tryz.strconv_Atoi a0 r hb h w).mono ?_
 rintro e w' ⟨rfl, t, rfl⟩
 exact ⟨rfl, bytes_below (Below.refl _ w) (Nat.le_refl _) 5 t⟩
end Go.Proofs.YtdcldaknmenklaaGreatDoor.M
end
section
namespace Go.Proofs.YtdcldaknmenklaaGreatDoor.M
open Go.RowKit Go.Proofs.YtdcldaknmenklaaGreatDoorW.PrintWords Go.Proofs.YtdcldaknmenklaaGreatDoorW.PrintLast Go.Proofs.YtdcldaknmenklaaGreatDoorW.PrintMore
set_option linter.unusedVariables false
set_option linter.unusedSimpArgs false
def putName (n : List ByteArray) (f : ByteArray) : Option (List ByteArray) :=
 (strings_Cut.f f ⟨#[47]⟩).bind fun t => (atoiN t.1).bind fun k => if 0 ≤ k ∧ k < 256 then some (n.set k.toNat t.2.1) else none
def putFields : List ByteArray → List ByteArray → Option (List ByteArray)
 | n, [] => some n
 | n, f :: r => (putName n f).bind fun m => putFields m r
def putLines : List ByteArray → List ByteArray → Option (List ByteArray)
 | n, [] => some n
 | n, l :: r => (strings_Fields.f l).bind fun fs => (putFields n fs).bind fun m => putLines m r
theorem putName_length {n m : List ByteArray} {f : ByteArray} (h : putName n f = some m) : m.length = n.length := by
 unfold putName at h
 obtain ⟨t, -, h⟩ := Option.bind_eq_some_iff.1 h
 obtain ⟨k, -, h⟩ := Option.bind_eq_some_iff.1 h
 split at h
 ·obtain rfl := Option.some.inj h; simp
 ·cases h
theorem fields_len {a : ByteArray} {r : List ByteArray} (h : strings_Fields.f a = some r) : r.length ≤ 8796093022208 := by
 unfold strings_Fields.f at h
 split at h
 case isFalse => cases h
 rename_i hb
 obtain rfl := Option.some.inj h
 exact hb.2.2
set_option maxHeartbeats 1000000 in
set_option maxRecDepth 1000000 in
theorem enc_with_calls (n : List ByteArray) (hn : n.length = 256) (A0 : Option Addr) (c0 : Nat) (lines r : List ByteArray) (w : World) (hr0 : Kd.C Kd.string w A0 lines.length lines) (hc0 : lines.length ≤ c0) (hll : lines.length ≤ 1000000) (hG : GW w) (h : putLines n lines = some r) :
    Calls Tryz.prog 48 #[.agg (namesV n), .slice A0 lines.length c0] w fun e w' => e = .returned (.agg (namesV r)) ∧ Below w.heap.size w w' := by
  have HR := Aside0.mk hr0
  have HG := Aside0.mk hG
  have HH := Aside0.mk h
  have HN := Aside0.mk hn
  clear hr0 hG h hn
  generalize hV : namesV n = V
  have HV := Aside0.mk hV
  clear hV
  go_enter Tryz.func48, Tryz.ntmps48
  go_wp2
  rw [zero_names]
  generalize hzz : namesV (List.replicate 256 noName) = Z
  have hz256 : Z.size = 256 := by rw [← hzz, namesV_size, List.length_replicate]
  clear hzz
  go_loopw [16] (fun i wr => ∃ (k : Nat) (m : List ByteArray), k ≤ lines.length ∧ i = .int .i64 k ∧ Aside0 (m.length = 256) ∧ Aside0 (putLines m (lines.drop k) = some r) ∧ Aside0 (wr.heap[w.heap.size]? = some (.cells (namesV m) 73 (0, 0))) ∧ Aside0 (wr.heap[w.heap.size + 1]? = some (.cells Z 73 (0, 0))) ∧ Aside0 (Below w.heap.size w wr)) (fun i wr => lines.length - (intOf i).toNat)
  case atStart =>
    refine ⟨0, n, Nat.zero_le _, rfl, HN, ⟨by rw [List.drop_zero]; exact HH.out⟩, ⟨?_⟩, ⟨?_⟩, ⟨below_alloc (below_alloc (Below.refl _ w) _) _⟩⟩
    · rw [HV.out]
      show ((w.heap.push _).push _)[w.heap.size]? = _
      rw [Array.getElem?_push, if_neg (by simp), Array.getElem?_push_size]
    · exact heap_alloc2_new w _ _
  case round =>
    obtain ⟨k, m, hk, rfl, HM, HP, HV0, HZ0, HB⟩ := hrel
    by_cases hlt : k < lines.length
    · obtain ⟨ad, hA, hbk, hcell⟩ := strings_readA HR.out (by omega)
      subst hA
      have hx : wr.cell? (ad.add k) = some (.string lines[k]) := pw_cell_below HB.out (hcell k _ (List.getElem?_eq_getElem hlt))
      have hp := HP.out
      rw [List.drop_eq_getElem_cons hlt, putLines] at hp
      replace hp := Option.bind_eq_some_iff.1 hp
      rcases hp with ⟨fs, hfs, hp⟩
      replace hp := Option.bind_eq_some_iff.1 hp
      rcases hp with ⟨m2, hm2, hp⟩
      generalize lines[k] = line at hx hfs
      have hfl := fields_len hfs
      have HFS := Aside0.mk hfs
      have HM2 := Aside0.mk hm2
      have HP2 := Aside0.mk hp
      clear hfs hm2 hp HP hcell
      have hi1 : (k : Int) < (lines.length : Int) := by omega
      go_wp2_with (go_at_call 74; refine (strings_Fields.calls line fs _ (HG.out.below HB.out) HFS.out).mono ?_)
      rintro e W1 ⟨v0, rfl, hR, hb1⟩
      obtain ⟨A1, c1, rfl⟩ := Kd.R_slice hR
      obtain ⟨-, -, hC1⟩ := Kd.R_reads' hR
      have hwr : w.heap.size + 2 ≤ wr.heap.size := by
        rcases Nat.lt_or_ge (w.heap.size + 1) wr.heap.size with h' | h'
        · omega
        · have := HZ0.out; rw [Array.getElem?_eq_none h'] at this; cases this
      have hrow : 0 < fs.length → ∃ ad1 : Addr, A1 = some ad1 ∧ w.heap.size + 2 ≤ ad1.block ∧ ∀ (j : Nat) x, fs[j]? = some x → W1.cell? (ad1.add j) = some (.string x) := by
        intro h0
        obtain ⟨ad1, e1, -, hc⟩ := strings_readA hC1 h0
        subst e1
        have := Kd.R_base hR ad1.block rfl
        exact ⟨ad1, rfl, by omega, hc⟩
      have HV1 := Aside0.mk ((hb1.block w.heap.size (by omega)).trans HV0.out)
      have HZ1 := Aside0.mk ((hb1.block (w.heap.size + 1) (by omega)).trans HZ0.out)
      have HB1 := Aside0.mk (below_step HB.out hb1)
      have HROW := Aside0.mk hrow
      clear hb1 hR hC1 hrow HV0 HZ0 HB hx
      go_wp2
      go_loopw [23] (fun i ws => ∃ (j : Nat) (m1 : List ByteArray), j ≤ fs.length ∧ i = .int .i64 j ∧ Aside0 (m1.length = 256) ∧ Aside0 (putFields m1 (fs.drop j) = some m2) ∧ Aside0 (ws.heap[w.heap.size]? = some (.cells (namesV m1) 73 (0, 0))) ∧ Aside0 (ws.heap[w.heap.size + 1]? = some (.cells Z 73 (0, 0))) ∧ Aside0 (Below w.heap.size w ws) ∧ Aside0 (0 < fs.length → ∃ ad1 : Addr, A1 = some ad1 ∧ w.heap.size + 2 ≤ ad1.block ∧ ∀ (j : Nat) x, fs[j]? = some x → ws.cell? (ad1.add j) = some (.string x))) (fun i ws => fs.length - (intOf i).toNat)
      case atStart => exact ⟨0, m, Nat.zero_le _, rfl, HM, HM2, HV1, HZ1, HB1, HROW⟩
      case round =>
        clear HV1 HZ1 HB1 HROW HM2 HM
        obtain ⟨j, m1, hj, rfl, HM, HM2, HV1, HZ1, HB1, HROW⟩ := hrel
        by_cases hlj : j < fs.length
        · obtain ⟨ad1, hA1, hb1, hcell⟩ := HROW.out (by omega)
          subst hA1
          have hx := hcell j _ (List.getElem?_eq_getElem hlj)
          have hp := HM2.out
          rw [List.drop_eq_getElem_cons hlj, putFields] at hp
          replace hp := Option.bind_eq_some_iff.1 hp
          rcases hp with ⟨m3, hm3, hp⟩
          generalize fs[j] = fld at hx hm3
          unfold putName at hm3
          replace hm3 := Option.bind_eq_some_iff.1 hm3
          rcases hm3 with ⟨⟨c, nm, bb⟩, hcut, hm3⟩
          replace hm3 := Option.bind_eq_some_iff.1 hm3
          rcases hm3 with ⟨z, hz, hm3⟩
          simp only at hz hm3
          split at hm3
          case isFalse => cases hm3
          rename_i hz01
          replace hm3 := Option.some.inj hm3
          subst hm3
          have hq0 := hz01.1
          have hq := hz01.2
          have HCUT := Aside0.mk hcut
          have HZQ := Aside0.mk hz
          have HP3 := Aside0.mk hp
          have HCELL := Aside0.mk hcell
          clear hcut hz hp hz01 HM2 hcell
          have hj1 : (j : Int) < (fs.length : Int) := by omega
          go_wp2_with fail
          have hwr2 : w.heap.size + 2 ≤ wr.heap.size := by
            rcases Nat.lt_or_ge (w.heap.size + 1) wr.heap.size with h' | h'
            · omega
            · have := HZ1.out; rw [Array.getElem?_eq_none h'] at this; cases this
          with_reducible refine (strings_Cut.calls fld _ c nm bb _ (HG.out.below HB1.out) HCUT.out).mono ?_
          rintro e W2 ⟨rfl, hb2⟩
          have HV2 := Aside0.mk ((hb2.block w.heap.size (by omega)).trans HV1.out)
          have HZ2 := Aside0.mk ((hb2.block (w.heap.size + 1) (by omega)).trans HZ1.out)
          have HB2 := Aside0.mk (below_step HB1.out hb2)
          have HROW2 := Aside0.mk (fun j x hh => pw_cell_below hb2 (HCELL.out j x hh))
          have hwr3 : w.heap.size + 2 ≤ W2.heap.size := Nat.le_trans hwr2 hb2.size
          clear HV1 HZ1 HB1 hx hb2 HCELL
          go_wp2_with fail
          with_reducible refine (strconv_Atoi_calls c z _ HZQ.out).mono ?_
          rintro e W3 ⟨rfl, hb3⟩
          have HV3 := Aside0.mk ((hb3.block w.heap.size (by omega)).trans HV2.out)
          have HZ3 := Aside0.mk ((hb3.block (w.heap.size + 1) (by omega)).trans HZ2.out)
          have HB3 := Aside0.mk (below_step HB2.out hb3)
          have HROW3 := Aside0.mk (fun j x hh => pw_cell_below hb3 (HROW2.out j x hh))
          clear HV2 HZ2 HB2 hb3 HROW2
          obtain ⟨q, rfl⟩ := Int.eq_ofNat_of_zero_le hq0
          rw [Int.toNat_natCast] at HP3
          obtain ⟨hc3, hf3⟩ := names_cell HV3.out (q := q) (by rw [HM.out]; omega)
          go_wp2
          go_roundw
          case rel =>
            refine ⟨j + 1, m1.set q nm, by omega, by go_num, ⟨by rw [List.length_set]; exact HM.out⟩, HP3, ⟨names_set nm HV3.out⟩, ⟨(heap_setCell_other _ _ _ _ (by show w.heap.size + 1 ≠ w.heap.size; omega)).trans HZ3.out⟩, ⟨HB3.out.setCell (Nat.le_refl _) _⟩, ⟨fun _ => ⟨ad1, rfl, hb1, ?_⟩⟩⟩
            intro j' x hh
            rw [cell_set_other _ _ _ _ _ (by have e : (ad1.add j').block = ad1.block := by unfold Addr.add; split <;> rfl
                                             rw [e]; omega)]
            exact HROW3.out j' x hh
          case measure => simp [intOf]; omega
        · have hjl : j = fs.length := by omega
          subst hjl
          have hp := HM2.out
          rw [List.drop_length, putFields] at hp
          replace hp := Option.some.inj hp
          subst hp
          clear HM2
          go_wp2
          go_roundw
          case rel =>
            exact ⟨k + 1, m1, by omega, by go_num, HM, HP2, HV1, HZ1, HB1⟩
          case measure => simp [intOf]; omega
    · have hkl : k = lines.length := by omega
      subst hkl
      have hp := HP.out
      rw [List.drop_length, putLines] at hp
      replace hp := Option.some.inj hp
      subst hp
      clear HP HR
      have hVs : (namesV m).size = 256 := by rw [namesV_size]; exact HM.out
      have hone : (namesV m).all (·.oneCell') = true := namesV_one _
      generalize hROW : namesV m = ROW at hVs hone
      have HVR : Aside0 (wr.heap[w.heap.size]? = some (.cells ROW 73 (0, 0))) := ⟨by rw [← hROW]; exact HV0.out⟩
      have HROW := Aside0.mk hROW
      clear hROW HV0
      go_wp2_with (first | (refine wpList_load_row rfl 73 (.tmp 2) rfl w.heap.size rfl 73 ROW (0, 0) _ HVR.out Tryz.underlying73 rfl (by rw [hVs]; kernel_rfl) ?_) | (refine wpList_store_row rfl 73 (.tmp 4) (.tmp 43) rfl (w.heap.size + 1) ROW rfl rfl 73 _ HZ0.out (by rw [hVs]; kernel_rfl) (by rw [hz256, hVs]) hone ?_))
      refine bodyPost_ret (v := .agg ROW) ?_ rfl ⟨by rw [HROW.out], below_setRow HB.out (by omega) _⟩
      exact results_cell_row (fn := Tryz.f48) (p := 4) (ty := 73) rfl _ _ (w.heap.size + 1) 73 ROW (0, 0) _ rfl (setRow_heap wr _ _ ROW 73 (0, 0) HZ0.out) Tryz.underlying73 rfl (by rw [hVs]; kernel_rfl)
end Go.Proofs.YtdcldaknmenklaaGreatDoor.M
end
section
namespace Go.Proofs.YtdcldaknmenklaaGreatDoor.M
open Go.RowKit Go.Proofs.YtdcldaknmenklaaGreatDoorW.PrintWords Go.Proofs.YtdcldaknmenklaaGreatDoorW.PrintLast Go.Proofs.YtdcldaknmenklaaGreatDoorW.PrintMore
attribute [local go_sem] max2_int min2_int max_two min_two max_three min_three max_four min_four
set_option linter.unusedVariables false
set_option linter.unusedSimpArgs false
def enc_win.f  : Option (List ByteArray) := some (([(⟨#[49, 50, 55, 47, 98, 117, 108, 108, 101, 116, 32, 49, 50, 56, 47, 69, 117, 114, 111, 32, 49, 50, 57, 47, 98, 117, 108, 108, 101, 116, 32, 49, 51, 48, 47, 113, 117, 111, 116, 101, 115, 105, 110, 103, 108, 98, 97, 115, 101, 32, 49, 51, 49, 47, 102, 108, 111, 114, 105, 110, 32, 49, 51, 50, 47, 113, 117, 111, 116, 101, 100, 98, 108, 98, 97, 115, 101]⟩ : ByteArray), (⟨#[49, 51, 51, 47, 101, 108, 108, 105, 112, 115, 105, 115, 32, 49, 51, 52, 47, 100, 97, 103, 103, 101, 114, 32, 49, 51, 53, 47, 100, 97, 103, 103, 101, 114, 100, 98, 108, 32, 49, 51, 54, 47, 99, 105, 114, 99, 117, 109, 102, 108, 101, 120, 32, 49, 51, 55, 47, 112, 101, 114, 116, 104, 111, 117, 115, 97, 110, 100, 32, 49, 51, 56, 47, 83, 99, 97, 114, 111, 110]⟩ : ByteArray), (⟨#[49, 51, 57, 47, 103, 117, 105, 108, 115, 105, 110, 103, 108, 108, 101, 102, 116, 32, 49, 52, 48, 47, 79, 69, 32, 49, 52, 49, 47, 98, 117, 108, 108, 101, 116, 32, 49, 52, 50, 47, 90, 99, 97, 114, 111, 110, 32, 49, 52, 51, 47, 98, 117, 108, 108, 101, 116, 32, 49, 52, 52, 47, 98, 117, 108, 108, 101, 116]⟩ : ByteArray), (⟨#[49, 52, 53, 47, 113, 117, 111, 116, 101, 108, 101, 102, 116, 32, 49, 52, 54, 47, 113, 117, 111, 116, 101, 114, 105, 103, 104, 116, 32, 49, 52, 55, 47, 113, 117, 111, 116, 101, 100, 98, 108, 108, 101, 102, 116, 32, 49, 52, 56, 47, 113, 117, 111, 116, 101, 100, 98, 108, 114, 105, 103, 104, 116, 32, 49, 52, 57, 47, 98, 117, 108, 108, 101, 116, 32, 49, 53, 48, 47, 101, 110, 100, 97, 115, 104]⟩ : ByteArray), (⟨#[49, 53, 49, 47, 101, 109, 100, 97, 115, 104, 32, 49, 53, 50, 47, 116, 105, 108, 100, 101, 32, 49, 53, 51, 47, 116, 114, 97, 100, 101, 109, 97, 114, 107, 32, 49, 53, 52, 47, 115, 99, 97, 114, 111, 110, 32, 49, 53, 53, 47, 103, 117, 105, 108, 115, 105, 110, 103, 108, 114, 105, 103, 104, 116, 32, 49, 53, 54, 47, 111, 101]⟩ : ByteArray), (⟨#[49, 53, 55, 47, 98, 117, 108, 108, 101, 116, 32, 49, 53, 56, 47, 122, 99, 97, 114, 111, 110, 32, 49, 53, 57, 47, 89, 100, 105, 101, 114, 101, 115, 105, 115, 32, 49, 54, 48, 47, 115, 112, 97, 99, 101, 32, 49, 54, 49, 47, 101, 120, 99, 108, 97, 109, 100, 111, 119, 110, 32, 49, 54, 50, 47, 99, 101, 110, 116]⟩ : ByteArray), (⟨#[49, 54, 51, 47, 115, 116, 101, 114, 108, 105, 110, 103, 32, 49, 54, 52, 47, 99, 117, 114, 114, 101, 110, 99, 121, 32, 49, 54, 53, 47, 121, 101, 110, 32, 49, 54, 54, 47, 98, 114, 111, 107, 101, 110, 98, 97, 114, 32, 49, 54, 55, 47, 115, 101, 99, 116, 105, 111, 110, 32, 49, 54, 56, 47, 100, 105, 101, 114, 101, 115, 105, 115]⟩ : ByteArray), (⟨#[49, 54, 57, 47, 99, 111, 112, 121, 114, 105, 103, 104, 116, 32, 49, 55, 48, 47, 111, 114, 100, 102, 101, 109, 105, 110, 105, 110, 101, 32, 49, 55, 49, 47, 103, 117, 105, 108, 108, 101, 109, 111, 116, 108, 101, 102, 116, 32, 49, 55, 50, 47, 108, 111, 103, 105, 99, 97, 108, 110, 111, 116, 32, 49, 55, 51, 47, 104, 121, 112, 104, 101, 110, 32, 49, 55, 52, 47, 114, 101, 103, 105, 115, 116, 101, 114, 101, 100]⟩ : ByteArray), (⟨#[49, 55, 53, 47, 109, 97, 99, 114, 111, 110, 32, 49, 55, 54, 47, 100, 101, 103, 114, 101, 101, 32, 49, 55, 55, 47, 112, 108, 117, 115, 109, 105, 110, 117, 115, 32, 49, 55, 56, 47, 116, 119, 111, 115, 117, 112, 101, 114, 105, 111, 114, 32, 49, 55, 57, 47, 116, 104, 114, 101, 101, 115, 117, 112, 101, 114, 105, 111, 114, 32, 49, 56, 48, 47, 97, 99, 117, 116, 101]⟩ : ByteArray), (⟨#[49, 56, 49, 47, 109, 117, 32, 49, 56, 50, 47, 112, 97, 114, 97, 103, 114, 97, 112, 104, 32, 49, 56, 51, 47, 112, 101, 114, 105, 111, 100, 99, 101, 110, 116, 101, 114, 101, 100, 32, 49, 56, 52, 47, 99, 101, 100, 105, 108, 108, 97, 32, 49, 56, 53, 47, 111, 110, 101, 115, 117, 112, 101, 114, 105, 111, 114, 32, 49, 56, 54, 47, 111, 114, 100, 109, 97, 115, 99, 117, 108, 105, 110, 101]⟩ : ByteArray), (⟨#[49, 56, 55, 47, 103, 117, 105, 108, 108, 101, 109, 111, 116, 114, 105, 103, 104, 116, 32, 49, 56, 56, 47, 111, 110, 101, 113, 117, 97, 114, 116, 101, 114, 32, 49, 56, 57, 47, 111, 110, 101, 104, 97, 108, 102, 32, 49, 57, 48, 47, 116, 104, 114, 101, 101, 113, 117, 97, 114, 116, 101, 114, 115, 32, 49, 57, 49, 47, 113, 117, 101, 115, 116, 105, 111, 110, 100, 111, 119, 110, 32, 49, 57, 50, 47, 65, 103, 114, 97, 118, 101]⟩ : ByteArray), (⟨#[49, 57, 51, 47, 65, 97, 99, 117, 116, 101, 32, 49, 57, 52, 47, 65, 99, 105, 114, 99, 117, 109, 102, 108, 101, 120, 32, 49, 57, 53, 47, 65, 116, 105, 108, 100, 101, 32, 49, 57, 54, 47, 65, 100, 105, 101, 114, 101, 115, 105, 115, 32, 49, 57, 55, 47, 65, 114, 105, 110, 103, 32, 49, 57, 56, 47, 65, 69]⟩ : ByteArray), (⟨#[49, 57, 57, 47, 67, 99, 101, 100, 105, 108, 108, 97, 32, 50, 48, 48, 47, 69, 103, 114, 97, 118, 101, 32, 50, 48, 49, 47, 69, 97, 99, 117, 116, 101, 32, 50, 48, 50, 47, 69, 99, 105, 114, 99, 117, 109, 102, 108, 101, 120, 32, 50, 48, 51, 47, 69, 100, 105, 101, 114, 101, 115, 105, 115, 32, 50, 48, 52, 47, 73, 103, 114, 97, 118, 101]⟩ : ByteArray), (⟨#[50, 48, 53, 47, 73, 97, 99, 117, 116, 101, 32, 50, 48, 54, 47, 73, 99, 105, 114, 99, 117, 109, 102, 108, 101, 120, 32, 50, 48, 55, 47, 73, 100, 105, 101, 114, 101, 115, 105, 115, 32, 50, 48, 56, 47, 69, 116, 104, 32, 50, 48, 57, 47, 78, 116, 105, 108, 100, 101, 32, 50, 49, 48, 47, 79, 103, 114, 97, 118, 101]⟩ : ByteArray), (⟨#[50, 49, 49, 47, 79, 97, 99, 117, 116, 101, 32, 50, 49, 50, 47, 79, 99, 105, 114, 99, 117, 109, 102, 108, 101, 120, 32, 50, 49, 51, 47, 79, 116, 105, 108, 100, 101, 32, 50, 49, 52, 47, 79, 100, 105, 101, 114, 101, 115, 105, 115, 32, 50, 49, 53, 47, 109, 117, 108, 116, 105, 112, 108, 121, 32, 50, 49, 54, 47, 79, 115, 108, 97, 115, 104]⟩ : ByteArray), (⟨#[50, 49, 55, 47, 85, 103, 114, 97, 118, 101, 32, 50, 49, 56, 47, 85, 97, 99, 117, 116, 101, 32, 50, 49, 57, 47, 85, 99, 105, 114, 99, 117, 109, 102, 108, 101, 120, 32, 50, 50, 48, 47, 85, 100, 105, 101, 114, 101, 115, 105, 115, 32, 50, 50, 49, 47, 89, 97, 99, 117, 116, 101, 32, 50, 50, 50, 47, 84, 104, 111, 114, 110]⟩ : ByteArray), (⟨#[50, 50, 51, 47, 103, 101, 114, 109, 97, 110, 100, 98, 108, 115, 32, 50, 50, 52, 47, 97, 103, 114, 97, 118, 101, 32, 50, 50, 53, 47, 97, 97, 99, 117, 116, 101, 32, 50, 50, 54, 47, 97, 99, 105, 114, 99, 117, 109, 102, 108, 101, 120, 32, 50, 50, 55, 47, 97, 116, 105, 108, 100, 101, 32, 50, 50, 56, 47, 97, 100, 105, 101, 114, 101, 115, 105, 115]⟩ : ByteArray), (⟨#[50, 50, 57, 47, 97, 114, 105, 110, 103, 32, 50, 51, 48, 47, 97, 101, 32, 50, 51, 49, 47, 99, 99, 101, 100, 105, 108, 108, 97, 32, 50, 51, 50, 47, 101, 103, 114, 97, 118, 101, 32, 50, 51, 51, 47, 101, 97, 99, 117, 116, 101, 32, 50, 51, 52, 47, 101, 99, 105, 114, 99, 117, 109, 102, 108, 101, 120]⟩ : ByteArray), (⟨#[50, 51, 53, 47, 101, 100, 105, 101, 114, 101, 115, 105, 115, 32, 50, 51, 54, 47, 105, 103, 114, 97, 118, 101, 32, 50, 51, 55, 47, 105, 97, 99, 117, 116, 101, 32, 50, 51, 56, 47, 105, 99, 105, 114, 99, 117, 109, 102, 108, 101, 120, 32, 50, 51, 57, 47, 105, 100, 105, 101, 114, 101, 115, 105, 115, 32, 50, 52, 48, 47, 101, 116, 104]⟩ : ByteArray), (⟨#[50, 52, 49, 47, 110, 116, 105, 108, 100, 101, 32, 50, 52, 50, 47, 111, 103, 114, 97, 118, 101, 32, 50, 52, 51, 47, 111, 97, 99, 117, 116, 101, 32, 50, 52, 52, 47, 111, 99, 105, 114, 99, 117, 109, 102, 108, 101, 120, 32, 50, 52, 53, 47, 111, 116, 105, 108, 100, 101, 32, 50, 52, 54, 47, 111, 100, 105, 101, 114, 101, 115, 105, 115]⟩ : ByteArray), (⟨#[50, 52, 55, 47, 100, 105, 118, 105, 100, 101, 32, 50, 52, 56, 47, 111, 115, 108, 97, 115, 104, 32, 50, 52, 57, 47, 117, 103, 114, 97, 118, 101, 32, 50, 53, 48, 47, 117, 97, 99, 117, 116, 101, 32, 50, 53, 49, 47, 117, 99, 105, 114, 99, 117, 109, 102, 108, 101, 120, 32, 50, 53, 50, 47, 117, 100, 105, 101, 114, 101, 115, 105, 115]⟩ : ByteArray), (⟨#[50, 53, 51, 47, 121, 97, 99, 117, 116, 101, 32, 50, 53, 52, 47, 116, 104, 111, 114, 110, 32, 50, 53, 53, 47, 121, 100, 105, 101, 114, 101, 115, 105, 115]⟩ : ByteArray)] : List ByteArray))
set_option maxHeartbeats 8000000 in
set_option maxRecDepth 100000 in
theorem enc_win.calls  (r : List ByteArray) (w : World) (h : enc_win.f  = some r) :
  Calls Tryz.prog 77 #[] w fun e w' => ∃ v0_ : Value, e = .returned (v0_) ∧ Kd.R Kd.string 9 w' w.heap.size (fun _ => True) v0_ r ∧ Below w.heap.size w w' := by
 have HB := aM (Below.refl w.heap.size w)
 have Ny101 := aM (Option.some.inj (show some _ = some r from h)).symm
 clear h
 go_enter Tryz.func77, Tryz.ntmps77
 go_wp2_with (first | ((with_reducible refine gD 1 ?_); refine Kd.R_lit Kd.string _ 9 ?hg (N := 1) ?hd (xs := r) (inner := r.map Value.string) (ok := fun _ => True) (okp := fun _ => True) ?hr ?hp (fun _ hk => hk) trivial (Below.refl _ _) (Nat.le_refl _) (by rw [Ny101.out]; simp) ?_; (case hd => rfl); (case hg => rfl); (case hr => rw [Ny101.out]; simp only [List.map_cons, List.map_nil]; first | (go_simp; done) | (go_simp; rfl)); (case hp => exact repsS _ _ _ r); intro v102 w1 ho2 hb hg_ hnew_; clear hg_ hnew_; have HO103 := lK ho2; replace HB := sB hb; clear hb ho2))
 go_ret
 exact ⟨_, eQ, mQ HO103, bQ⟩
def enc_mac.f  : Option (List ByteArray) := some (([(⟨#[49, 50, 56, 47, 65, 100, 105, 101, 114, 101, 115, 105, 115, 32, 49, 50, 57, 47, 65, 114, 105, 110, 103, 32, 49, 51, 48, 47, 67, 99, 101, 100, 105, 108, 108, 97, 32, 49, 51, 49, 47, 69, 97, 99, 117, 116, 101, 32, 49, 51, 50, 47, 78, 116, 105, 108, 100, 101, 32, 49, 51, 51, 47, 79, 100, 105, 101, 114, 101, 115, 105, 115]⟩ : ByteArray), (⟨#[49, 51, 52, 47, 85, 100, 105, 101, 114, 101, 115, 105, 115, 32, 49, 51, 53, 47, 97, 97, 99, 117, 116, 101, 32, 49, 51, 54, 47, 97, 103, 114, 97, 118, 101, 32, 49, 51, 55, 47, 97, 99, 105, 114, 99, 117, 109, 102, 108, 101, 120, 32, 49, 51, 56, 47, 97, 100, 105, 101, 114, 101, 115, 105, 115, 32, 49, 51, 57, 47, 97, 116, 105, 108, 100, 101]⟩ : ByteArray), (⟨#[49, 52, 48, 47, 97, 114, 105, 110, 103, 32, 49, 52, 49, 47, 99, 99, 101, 100, 105, 108, 108, 97, 32, 49, 52, 50, 47, 101, 97, 99, 117, 116, 101, 32, 49, 52, 51, 47, 101, 103, 114, 97, 118, 101, 32, 49, 52, 52, 47, 101, 99, 105, 114, 99, 117, 109, 102, 108, 101, 120, 32, 49, 52, 53, 47, 101, 100, 105, 101, 114, 101, 115, 105, 115]⟩ : ByteArray), (⟨#[49, 52, 54, 47, 105, 97, 99, 117, 116, 101, 32, 49, 52, 55, 47, 105, 103, 114, 97, 118, 101, 32, 49, 52, 56, 47, 105, 99, 105, 114, 99, 117, 109, 102, 108, 101, 120, 32, 49, 52, 57, 47, 105, 100, 105, 101, 114, 101, 115, 105, 115, 32, 49, 53, 48, 47, 110, 116, 105, 108, 100, 101, 32, 49, 53, 49, 47, 111, 97, 99, 117, 116, 101]⟩ : ByteArray), (⟨#[49, 53, 50, 47, 111, 103, 114, 97, 118, 101, 32, 49, 53, 51, 47, 111, 99, 105, 114, 99, 117, 109, 102, 108, 101, 120, 32, 49, 53, 52, 47, 111, 100, 105, 101, 114, 101, 115, 105, 115, 32, 49, 53, 53, 47, 111, 116, 105, 108, 100, 101, 32, 49, 53, 54, 47, 117, 97, 99, 117, 116, 101, 32, 49, 53, 55, 47, 117, 103, 114, 97, 118, 101]⟩ : ByteArray), (⟨#[49, 53, 56, 47, 117, 99, 105, 114, 99, 117, 109, 102, 108, 101, 120, 32, 49, 53, 57, 47, 117, 100, 105, 101, 114, 101, 115, 105, 115, 32, 49, 54, 48, 47, 100, 97, 103, 103, 101, 114, 32, 49, 54, 49, 47, 100, 101, 103, 114, 101, 101, 32, 49, 54, 50, 47, 99, 101, 110, 116, 32, 49, 54, 51, 47, 115, 116, 101, 114, 108, 105, 110, 103]⟩ : ByteArray), (⟨#[49, 54, 52, 47, 115, 101, 99, 116, 105, 111, 110, 32, 49, 54, 53, 47, 98, 117, 108, 108, 101, 116, 32, 49, 54, 54, 47, 112, 97, 114, 97, 103, 114, 97, 112, 104, 32, 49, 54, 55, 47, 103, 101, 114, 109, 97, 110, 100, 98, 108, 115, 32, 49, 54, 56, 47, 114, 101, 103, 105, 115, 116, 101, 114, 101, 100, 32, 49, 54, 57, 47, 99, 111, 112, 121, 114, 105, 103, 104, 116]⟩ : ByteArray), (⟨#[49, 55, 48, 47, 116, 114, 97, 100, 101, 109, 97, 114, 107, 32, 49, 55, 49, 47, 97, 99, 117, 116, 101, 32, 49, 55, 50, 47, 100, 105, 101, 114, 101, 115, 105, 115, 32, 49, 55, 52, 47, 65, 69, 32, 49, 55, 53, 47, 79, 115, 108, 97, 115, 104, 32, 49, 55, 55, 47, 112, 108, 117, 115, 109, 105, 110, 117, 115]⟩ : ByteArray), (⟨#[49, 56, 48, 47, 121, 101, 110, 32, 49, 56, 49, 47, 109, 117, 32, 49, 56, 55, 47, 111, 114, 100, 102, 101, 109, 105, 110, 105, 110, 101, 32, 49, 56, 56, 47, 111, 114, 100, 109, 97, 115, 99, 117, 108, 105, 110, 101, 32, 49, 57, 48, 47, 97, 101, 32, 49, 57, 49, 47, 111, 115, 108, 97, 115, 104]⟩ : ByteArray), (⟨#[49, 57, 50, 47, 113, 117, 101, 115, 116, 105, 111, 110, 100, 111, 119, 110, 32, 49, 57, 51, 47, 101, 120, 99, 108, 97, 109, 100, 111, 119, 110, 32, 49, 57, 52, 47, 108, 111, 103, 105, 99, 97, 108, 110, 111, 116, 32, 49, 57, 54, 47, 102, 108, 111, 114, 105, 110, 32, 49, 57, 57, 47, 103, 117, 105, 108, 108, 101, 109, 111, 116, 108, 101, 102, 116, 32, 50, 48, 48, 47, 103, 117, 105, 108, 108, 101, 109, 111, 116, 114, 105, 103, 104, 116]⟩ : ByteArray), (⟨#[50, 48, 49, 47, 101, 108, 108, 105, 112, 115, 105, 115, 32, 50, 48, 50, 47, 115, 112, 97, 99, 101, 32, 50, 48, 51, 47, 65, 103, 114, 97, 118, 101, 32, 50, 48, 52, 47, 65, 116, 105, 108, 100, 101, 32, 50, 48, 53, 47, 79, 116, 105, 108, 100, 101, 32, 50, 48, 54, 47, 79, 69]⟩ : ByteArray), (⟨#[50, 48, 55, 47, 111, 101, 32, 50, 48, 56, 47, 101, 110, 100, 97, 115, 104, 32, 50, 48, 57, 47, 101, 109, 100, 97, 115, 104, 32, 50, 49, 48, 47, 113, 117, 111, 116, 101, 100, 98, 108, 108, 101, 102, 116, 32, 50, 49, 49, 47, 113, 117, 111, 116, 101, 100, 98, 108, 114, 105, 103, 104, 116, 32, 50, 49, 50, 47, 113, 117, 111, 116, 101, 108, 101, 102, 116]⟩ : ByteArray), (⟨#[50, 49, 51, 47, 113, 117, 111, 116, 101, 114, 105, 103, 104, 116, 32, 50, 49, 52, 47, 100, 105, 118, 105, 100, 101, 32, 50, 49, 54, 47, 121, 100, 105, 101, 114, 101, 115, 105, 115, 32, 50, 49, 55, 47, 89, 100, 105, 101, 114, 101, 115, 105, 115, 32, 50, 49, 56, 47, 102, 114, 97, 99, 116, 105, 111, 110, 32, 50, 49, 57, 47, 99, 117, 114, 114, 101, 110, 99, 121]⟩ : ByteArray), (⟨#[50, 50, 48, 47, 103, 117, 105, 108, 115, 105, 110, 103, 108, 108, 101, 102, 116, 32, 50, 50, 49, 47, 103, 117, 105, 108, 115, 105, 110, 103, 108, 114, 105, 103, 104, 116, 32, 50, 50, 50, 47, 102, 105, 32, 50, 50, 51, 47, 102, 108, 32, 50, 50, 52, 47, 100, 97, 103, 103, 101, 114, 100, 98, 108, 32, 50, 50, 53, 47, 112, 101, 114, 105, 111, 100, 99, 101, 110, 116, 101, 114, 101, 100]⟩ : ByteArray), (⟨#[50, 50, 54, 47, 113, 117, 111, 116, 101, 115, 105, 110, 103, 108, 98, 97, 115, 101, 32, 50, 50, 55, 47, 113, 117, 111, 116, 101, 100, 98, 108, 98, 97, 115, 101, 32, 50, 50, 56, 47, 112, 101, 114, 116, 104, 111, 117, 115, 97, 110, 100, 32, 50, 50, 57, 47, 65, 99, 105, 114, 99, 117, 109, 102, 108, 101, 120, 32, 50, 51, 48, 47, 69, 99, 105, 114, 99, 117, 109, 102, 108, 101, 120, 32, 50, 51, 49, 47, 65, 97, 99, 117, 116, 101]⟩ : ByteArray), (⟨#[50, 51, 50, 47, 69, 100, 105, 101, 114, 101, 115, 105, 115, 32, 50, 51, 51, 47, 69, 103, 114, 97, 118, 101, 32, 50, 51, 52, 47, 73, 97, 99, 117, 116, 101, 32, 50, 51, 53, 47, 73, 99, 105, 114, 99, 117, 109, 102, 108, 101, 120, 32, 50, 51, 54, 47, 73, 100, 105, 101, 114, 101, 115, 105, 115, 32, 50, 51, 55, 47, 73, 103, 114, 97, 118, 101]⟩ : ByteArray), (⟨#[50, 51, 56, 47, 79, 97, 99, 117, 116, 101, 32, 50, 51, 57, 47, 79, 99, 105, 114, 99, 117, 109, 102, 108, 101, 120, 32, 50, 52, 49, 47, 79, 103, 114, 97, 118, 101, 32, 50, 52, 50, 47, 85, 97, 99, 117, 116, 101, 32, 50, 52, 51, 47, 85, 99, 105, 114, 99, 117, 109, 102, 108, 101, 120, 32, 50, 52, 52, 47, 85, 103, 114, 97, 118, 101]⟩ : ByteArray), (⟨#[50, 52, 53, 47, 100, 111, 116, 108, 101, 115, 115, 105, 32, 50, 52, 54, 47, 99, 105, 114, 99, 117, 109, 102, 108, 101, 120, 32, 50, 52, 55, 47, 116, 105, 108, 100, 101, 32, 50, 52, 56, 47, 109, 97, 99, 114, 111, 110, 32, 50, 52, 57, 47, 98, 114, 101, 118, 101, 32, 50, 53, 48, 47, 100, 111, 116, 97, 99, 99, 101, 110, 116]⟩ : ByteArray), (⟨#[50, 53, 49, 47, 114, 105, 110, 103, 32, 50, 53, 50, 47, 99, 101, 100, 105, 108, 108, 97, 32, 50, 53, 51, 47, 104, 117, 110, 103, 97, 114, 117, 109, 108, 97, 117, 116, 32, 50, 53, 52, 47, 111, 103, 111, 110, 101, 107, 32, 50, 53, 53, 47, 99, 97, 114, 111, 110]⟩ : ByteArray)] : List ByteArray))
set_option maxHeartbeats 8000000 in
set_option maxRecDepth 100000 in
theorem enc_mac.calls  (r : List ByteArray) (w : World) (h : enc_mac.f  = some r) :
  Calls Tryz.prog 78 #[] w fun e w' => ∃ v0_ : Value, e = .returned (v0_) ∧ Kd.R Kd.string 9 w' w.heap.size (fun _ => True) v0_ r ∧ Below w.heap.size w w' := by
 have HB := aM (Below.refl w.heap.size w)
 have Ny104 := aM (Option.some.inj (show some _ = some r from h)).symm
 clear h
 go_enter Tryz.func78, Tryz.ntmps78
 go_wp2_with (first | ((with_reducible refine gD 1 ?_); refine Kd.R_lit Kd.string _ 9 ?hg (N := 1) ?hd (xs := r) (inner := r.map Value.string) (ok := fun _ => True) (okp := fun _ => True) ?hr ?hp (fun _ hk => hk) trivial (Below.refl _ _) (Nat.le_refl _) (by rw [Ny104.out]; simp) ?_; (case hd => rfl); (case hg => rfl); (case hr => rw [Ny104.out]; simp only [List.map_cons, List.map_nil]; first | (go_simp; done) | (go_simp; rfl)); (case hp => exact repsS _ _ _ r); intro v105 w1 ho2 hb hg_ hnew_; clear hg_ hnew_; have HO106 := lK ho2; replace HB := sB hb; clear hb ho2))
 go_ret
 exact ⟨_, eQ, mQ HO106, bQ⟩
def enc_symbol.f  : Option (List ByteArray) := some (([(⟨#[51, 52, 47, 117, 110, 105, 118, 101, 114, 115, 97, 108, 32, 51, 54, 47, 101, 120, 105, 115, 116, 101, 110, 116, 105, 97, 108, 32, 51, 57, 47, 115, 117, 99, 104, 116, 104, 97, 116, 32, 52, 50, 47, 97, 115, 116, 101, 114, 105, 115, 107, 109, 97, 116, 104, 32, 52, 53, 47, 109, 105, 110, 117, 115, 32, 54, 52, 47, 99, 111, 110, 103, 114, 117, 101, 110, 116]⟩ : ByteArray), (⟨#[54, 53, 47, 65, 108, 112, 104, 97, 32, 54, 54, 47, 66, 101, 116, 97, 32, 54, 55, 47, 67, 104, 105, 32, 54, 56, 47, 68, 101, 108, 116, 97, 32, 54, 57, 47, 69, 112, 115, 105, 108, 111, 110, 32, 55, 48, 47, 80, 104, 105]⟩ : ByteArray), (⟨#[55, 49, 47, 71, 97, 109, 109, 97, 32, 55, 50, 47, 69, 116, 97, 32, 55, 51, 47, 73, 111, 116, 97, 32, 55, 52, 47, 116, 104, 101, 116, 97, 49, 32, 55, 53, 47, 75, 97, 112, 112, 97, 32, 55, 54, 47, 76, 97, 109, 98, 100, 97]⟩ : ByteArray), (⟨#[55, 55, 47, 77, 117, 32, 55, 56, 47, 78, 117, 32, 55, 57, 47, 79, 109, 105, 99, 114, 111, 110, 32, 56, 48, 47, 80, 105, 32, 56, 49, 47, 84, 104, 101, 116, 97, 32, 56, 50, 47, 82, 104, 111]⟩ : ByteArray), (⟨#[56, 51, 47, 83, 105, 103, 109, 97, 32, 56, 52, 47, 84, 97, 117, 32, 56, 53, 47, 85, 112, 115, 105, 108, 111, 110, 32, 56, 54, 47, 115, 105, 103, 109, 97, 49, 32, 56, 55, 47, 79, 109, 101, 103, 97, 32, 56, 56, 47, 88, 105]⟩ : ByteArray), (⟨#[56, 57, 47, 80, 115, 105, 32, 57, 48, 47, 90, 101, 116, 97, 32, 57, 50, 47, 116, 104, 101, 114, 101, 102, 111, 114, 101, 32, 57, 52, 47, 112, 101, 114, 112, 101, 110, 100, 105, 99, 117, 108, 97, 114, 32, 57, 54, 47, 32, 57, 55, 47, 97, 108, 112, 104, 97]⟩ : ByteArray), (⟨#[57, 56, 47, 98, 101, 116, 97, 32, 57, 57, 47, 99, 104, 105, 32, 49, 48, 48, 47, 100, 101, 108, 116, 97, 32, 49, 48, 49, 47, 101, 112, 115, 105, 108, 111, 110, 32, 49, 48, 50, 47, 112, 104, 105, 32, 49, 48, 51, 47, 103, 97, 109, 109, 97]⟩ : ByteArray), (⟨#[49, 48, 52, 47, 101, 116, 97, 32, 49, 48, 53, 47, 105, 111, 116, 97, 32, 49, 48, 54, 47, 112, 104, 105, 49, 32, 49, 48, 55, 47, 107, 97, 112, 112, 97, 32, 49, 48, 56, 47, 108, 97, 109, 98, 100, 97, 32, 49, 48, 57, 47, 109, 117]⟩ : ByteArray), (⟨#[49, 49, 48, 47, 110, 117, 32, 49, 49, 49, 47, 111, 109, 105, 99, 114, 111, 110, 32, 49, 49, 50, 47, 112, 105, 32, 49, 49, 51, 47, 116, 104, 101, 116, 97, 32, 49, 49, 52, 47, 114, 104, 111, 32, 49, 49, 53, 47, 115, 105, 103, 109, 97]⟩ : ByteArray), (⟨#[49, 49, 54, 47, 116, 97, 117, 32, 49, 49, 55, 47, 117, 112, 115, 105, 108, 111, 110, 32, 49, 49, 56, 47, 111, 109, 101, 103, 97, 49, 32, 49, 49, 57, 47, 111, 109, 101, 103, 97, 32, 49, 50, 48, 47, 120, 105, 32, 49, 50, 49, 47, 112, 115, 105]⟩ : ByteArray), (⟨#[49, 50, 50, 47, 122, 101, 116, 97, 32, 49, 50, 54, 47, 115, 105, 109, 105, 108, 97, 114, 32, 49, 54, 48, 47, 69, 117, 114, 111, 32, 49, 54, 49, 47, 85, 112, 115, 105, 108, 111, 110, 49, 32, 49, 54, 50, 47, 109, 105, 110, 117, 116, 101, 32, 49, 54, 51, 47, 108, 101, 115, 115, 101, 113, 117, 97, 108]⟩ : ByteArray), (⟨#[49, 54, 52, 47, 102, 114, 97, 99, 116, 105, 111, 110, 32, 49, 54, 53, 47, 105, 110, 102, 105, 110, 105, 116, 121, 32, 49, 54, 54, 47, 102, 108, 111, 114, 105, 110, 32, 49, 54, 55, 47, 99, 108, 117, 98, 32, 49, 54, 56, 47, 100, 105, 97, 109, 111, 110, 100, 32, 49, 54, 57, 47, 104, 101, 97, 114, 116]⟩ : ByteArray), (⟨#[49, 55, 48, 47, 115, 112, 97, 100, 101, 32, 49, 55, 49, 47, 97, 114, 114, 111, 119, 98, 111, 116, 104, 32, 49, 55, 50, 47, 97, 114, 114, 111, 119, 108, 101, 102, 116, 32, 49, 55, 51, 47, 97, 114, 114, 111, 119, 117, 112, 32, 49, 55, 52, 47, 97, 114, 114, 111, 119, 114, 105, 103, 104, 116, 32, 49, 55, 53, 47, 97, 114, 114, 111, 119, 100, 111, 119, 110]⟩ : ByteArray), (⟨#[49, 55, 54, 47, 100, 101, 103, 114, 101, 101, 32, 49, 55, 55, 47, 112, 108, 117, 115, 109, 105, 110, 117, 115, 32, 49, 55, 56, 47, 115, 101, 99, 111, 110, 100, 32, 49, 55, 57, 47, 103, 114, 101, 97, 116, 101, 114, 101, 113, 117, 97, 108, 32, 49, 56, 48, 47, 109, 117, 108, 116, 105, 112, 108, 121, 32, 49, 56, 49, 47, 112, 114, 111, 112, 111, 114, 116, 105, 111, 110, 97, 108]⟩ : ByteArray), (⟨#[49, 56, 50, 47, 112, 97, 114, 116, 105, 97, 108, 100, 105, 102, 102, 32, 49, 56, 51, 47, 98, 117, 108, 108, 101, 116, 32, 49, 56, 52, 47, 100, 105, 118, 105, 100, 101, 32, 49, 56, 53, 47, 110, 111, 116, 101, 113, 117, 97, 108, 32, 49, 56, 54, 47, 101, 113, 117, 105, 118, 97, 108, 101, 110, 99, 101, 32, 49, 56, 55, 47, 97, 112, 112, 114, 111, 120, 101, 113, 117, 97, 108]⟩ : ByteArray), (⟨#[49, 56, 56, 47, 101, 108, 108, 105, 112, 115, 105, 115, 32, 49, 57, 50, 47, 97, 108, 101, 112, 104, 32, 49, 57, 51, 47, 73, 102, 114, 97, 107, 116, 117, 114, 32, 49, 57, 52, 47, 82, 102, 114, 97, 107, 116, 117, 114, 32, 49, 57, 53, 47, 119, 101, 105, 101, 114, 115, 116, 114, 97, 115, 115, 32, 49, 57, 54, 47, 99, 105, 114, 99, 108, 101, 109, 117, 108, 116, 105, 112, 108, 121]⟩ : ByteArray), (⟨#[49, 57, 55, 47, 99, 105, 114, 99, 108, 101, 112, 108, 117, 115, 32, 49, 57, 56, 47, 101, 109, 112, 116, 121, 115, 101, 116, 32, 49, 57, 57, 47, 105, 110, 116, 101, 114, 115, 101, 99, 116, 105, 111, 110, 32, 50, 48, 48, 47, 117, 110, 105, 111, 110, 32, 50, 48, 49, 47, 112, 114, 111, 112, 101, 114, 115, 117, 112, 101, 114, 115, 101, 116, 32, 50, 48, 50, 47, 114, 101, 102, 108, 101, 120, 115, 117, 112, 101, 114, 115, 101, 116]⟩ : ByteArray), (⟨#[50, 48, 51, 47, 110, 111, 116, 115, 117, 98, 115, 101, 116, 32, 50, 48, 52, 47, 112, 114, 111, 112, 101, 114, 115, 117, 98, 115, 101, 116, 32, 50, 48, 53, 47, 114, 101, 102, 108, 101, 120, 115, 117, 98, 115, 101, 116, 32, 50, 48, 54, 47, 101, 108, 101, 109, 101, 110, 116, 32, 50, 48, 55, 47, 110, 111, 116, 101, 108, 101, 109, 101, 110, 116, 32, 50, 48, 56, 47, 97, 110, 103, 108, 101]⟩ : ByteArray), (⟨#[50, 48, 57, 47, 103, 114, 97, 100, 105, 101, 110, 116, 32, 50, 49, 51, 47, 112, 114, 111, 100, 117, 99, 116, 32, 50, 49, 52, 47, 114, 97, 100, 105, 99, 97, 108, 32, 50, 49, 53, 47, 100, 111, 116, 109, 97, 116, 104, 32, 50, 49, 54, 47, 108, 111, 103, 105, 99, 97, 108, 110, 111, 116, 32, 50, 49, 55, 47, 108, 111, 103, 105, 99, 97, 108, 97, 110, 100]⟩ : ByteArray), (⟨#[50, 49, 56, 47, 108, 111, 103, 105, 99, 97, 108, 111, 114, 32, 50, 49, 57, 47, 97, 114, 114, 111, 119, 100, 98, 108, 98, 111, 116, 104, 32, 50, 50, 48, 47, 97, 114, 114, 111, 119, 100, 98, 108, 108, 101, 102, 116, 32, 50, 50, 49, 47, 97, 114, 114, 111, 119, 100, 98, 108, 117, 112, 32, 50, 50, 50, 47, 97, 114, 114, 111, 119, 100, 98, 108, 114, 105, 103, 104, 116, 32, 50, 50, 51, 47, 97, 114, 114, 111, 119, 100, 98, 108, 100, 111, 119, 110]⟩ : ByteArray), (⟨#[50, 50, 52, 47, 108, 111, 122, 101, 110, 103, 101, 32, 50, 50, 53, 47, 97, 110, 103, 108, 101, 108, 101, 102, 116, 32, 50, 50, 57, 47, 115, 117, 109, 109, 97, 116, 105, 111, 110, 32, 50, 52, 49, 47, 97, 110, 103, 108, 101, 114, 105, 103, 104, 116, 32, 50, 52, 50, 47, 105, 110, 116, 101, 103, 114, 97, 108]⟩ : ByteArray)] : List ByteArray))
set_option maxHeartbeats 8000000 in
set_option maxRecDepth 100000 in
theorem enc_symbol.calls  (r : List ByteArray) (w : World) (h : enc_symbol.f  = some r) :
  Calls Tryz.prog 79 #[] w fun e w' => ∃ v0_ : Value, e = .returned (v0_) ∧ Kd.R Kd.string 9 w' w.heap.size (fun _ => True) v0_ r ∧ Below w.heap.size w w' := by
 have HB := aM (Below.refl w.heap.size w)
 have Ny107 := aM (Option.some.inj (show some _ = some r from h)).symm
 clear h
 go_enter Tryz.func79, Tryz.ntmps79
 go_wp2_with (first | ((with_reducible refine gD 1 ?_); refine Kd.R_lit Kd.string _ 9 ?hg (N := 1) ?hd (xs := r) (inner := r.map Value.string) (ok := fun _ => True) (okp := fun _ => True) ?hr ?hp (fun _ hk => hk) trivial (Below.refl _ _) (Nat.le_refl _) (by rw [Ny107.out]; simp) ?_; (case hd => rfl); (case hg => rfl); (case hr => rw [Ny107.out]; simp only [List.map_cons, List.map_nil]; first | (go_simp; done) | (go_simp; rfl)); (case hp => exact repsS _ _ _ r); intro v108 w1 ho2 hb hg_ hnew_; clear hg_ hnew_; have HO109 := lK ho2; replace HB := sB hb; clear hb ho2))
 go_ret
 exact ⟨_, eQ, mQ HO109, bQ⟩
def enc_standard.f  : Option (List ByteArray) := some (([(⟨#[51, 57, 47, 113, 117, 111, 116, 101, 114, 105, 103, 104, 116, 32, 57, 54, 47, 113, 117, 111, 116, 101, 108, 101, 102, 116, 32, 49, 54, 49, 47, 101, 120, 99, 108, 97, 109, 100, 111, 119, 110, 32, 49, 54, 50, 47, 99, 101, 110, 116, 32, 49, 54, 51, 47, 115, 116, 101, 114, 108, 105, 110, 103, 32, 49, 54, 52, 47, 102, 114, 97, 99, 116, 105, 111, 110]⟩ : ByteArray), (⟨#[49, 54, 53, 47, 121, 101, 110, 32, 49, 54, 54, 47, 102, 108, 111, 114, 105, 110, 32, 49, 54, 55, 47, 115, 101, 99, 116, 105, 111, 110, 32, 49, 54, 56, 47, 99, 117, 114, 114, 101, 110, 99, 121, 32, 49, 54, 57, 47, 113, 117, 111, 116, 101, 115, 105, 110, 103, 108, 101, 32, 49, 55, 48, 47, 113, 117, 111, 116, 101, 100, 98, 108, 108, 101, 102, 116]⟩ : ByteArray), (⟨#[49, 55, 49, 47, 103, 117, 105, 108, 108, 101, 109, 111, 116, 108, 101, 102, 116, 32, 49, 55, 50, 47, 103, 117, 105, 108, 115, 105, 110, 103, 108, 108, 101, 102, 116, 32, 49, 55, 51, 47, 103, 117, 105, 108, 115, 105, 110, 103, 108, 114, 105, 103, 104, 116, 32, 49, 55, 52, 47, 102, 105, 32, 49, 55, 53, 47, 102, 108, 32, 49, 55, 55, 47, 101, 110, 100, 97, 115, 104]⟩ : ByteArray), (⟨#[49, 55, 56, 47, 100, 97, 103, 103, 101, 114, 32, 49, 55, 57, 47, 100, 97, 103, 103, 101, 114, 100, 98, 108, 32, 49, 56, 48, 47, 112, 101, 114, 105, 111, 100, 99, 101, 110, 116, 101, 114, 101, 100, 32, 49, 56, 50, 47, 112, 97, 114, 97, 103, 114, 97, 112, 104, 32, 49, 56, 51, 47, 98, 117, 108, 108, 101, 116, 32, 49, 56, 52, 47, 113, 117, 111, 116, 101, 115, 105, 110, 103, 108, 98, 97, 115, 101]⟩ : ByteArray), (⟨#[49, 56, 53, 47, 113, 117, 111, 116, 101, 100, 98, 108, 98, 97, 115, 101, 32, 49, 56, 54, 47, 113, 117, 111, 116, 101, 100, 98, 108, 114, 105, 103, 104, 116, 32, 49, 56, 55, 47, 103, 117, 105, 108, 108, 101, 109, 111, 116, 114, 105, 103, 104, 116, 32, 49, 56, 56, 47, 101, 108, 108, 105, 112, 115, 105, 115, 32, 49, 56, 57, 47, 112, 101, 114, 116, 104, 111, 117, 115, 97, 110, 100, 32, 49, 57, 49, 47, 113, 117, 101, 115, 116, 105, 111, 110, 100, 111, 119, 110]⟩ : ByteArray), (⟨#[49, 57, 51, 47, 103, 114, 97, 118, 101, 32, 49, 57, 52, 47, 97, 99, 117, 116, 101, 32, 49, 57, 53, 47, 99, 105, 114, 99, 117, 109, 102, 108, 101, 120, 32, 49, 57, 54, 47, 116, 105, 108, 100, 101, 32, 49, 57, 55, 47, 109, 97, 99, 114, 111, 110, 32, 49, 57, 56, 47, 98, 114, 101, 118, 101]⟩ : ByteArray), (⟨#[49, 57, 57, 47, 100, 111, 116, 97, 99, 99, 101, 110, 116, 32, 50, 48, 48, 47, 100, 105, 101, 114, 101, 115, 105, 115, 32, 50, 48, 50, 47, 114, 105, 110, 103, 32, 50, 48, 51, 47, 99, 101, 100, 105, 108, 108, 97, 32, 50, 48, 53, 47, 104, 117, 110, 103, 97, 114, 117, 109, 108, 97, 117, 116, 32, 50, 48, 54, 47, 111, 103, 111, 110, 101, 107]⟩ : ByteArray), (⟨#[50, 48, 55, 47, 99, 97, 114, 111, 110, 32, 50, 48, 56, 47, 101, 109, 100, 97, 115, 104, 32, 50, 50, 53, 47, 65, 69, 32, 50, 50, 55, 47, 111, 114, 100, 102, 101, 109, 105, 110, 105, 110, 101, 32, 50, 51, 50, 47, 76, 115, 108, 97, 115, 104, 32, 50, 51, 51, 47, 79, 115, 108, 97, 115, 104]⟩ : ByteArray), (⟨#[50, 51, 52, 47, 79, 69, 32, 50, 51, 53, 47, 111, 114, 100, 109, 97, 115, 99, 117, 108, 105, 110, 101, 32, 50, 52, 49, 47, 97, 101, 32, 50, 52, 53, 47, 100, 111, 116, 108, 101, 115, 115, 105, 32, 50, 52, 56, 47, 108, 115, 108, 97, 115, 104, 32, 50, 52, 57, 47, 111, 115, 108, 97, 115, 104]⟩ : ByteArray), (⟨#[50, 53, 48, 47, 111, 101, 32, 50, 53, 49, 47, 103, 101, 114, 109, 97, 110, 100, 98, 108, 115]⟩ : ByteArray)] : List ByteArray))
set_option maxHeartbeats 8000000 in
set_option maxRecDepth 100000 in
theorem enc_standard.calls  (r : List ByteArray) (w : World) (h : enc_standard.f  = some r) :
  Calls Tryz.prog 80 #[] w fun e w' => ∃ v0_ : Value, e = .returned (v0_) ∧ Kd.R Kd.string 9 w' w.heap.size (fun _ => True) v0_ r ∧ Below w.heap.size w w' := by
 have HB := aM (Below.refl w.heap.size w)
 have Ny110 := aM (Option.some.inj (show some _ = some r from h)).symm
 clear h
 go_enter Tryz.func80, Tryz.ntmps80
 go_wp2_with (first | ((with_reducible refine gD 1 ?_); refine Kd.R_lit Kd.string _ 9 ?hg (N := 1) ?hd (xs := r) (inner := r.map Value.string) (ok := fun _ => True) (okp := fun _ => True) ?hr ?hp (fun _ hk => hk) trivial (Below.refl _ _) (Nat.le_refl _) (by rw [Ny110.out]; simp) ?_; (case hd => rfl); (case hg => rfl); (case hr => rw [Ny110.out]; simp only [List.map_cons, List.map_nil]; first | (go_simp; done) | (go_simp; rfl)); (case hp => exact repsS _ _ _ r); intro v111 w1 ho2 hb hg_ hnew_; clear hg_ hnew_; have HO112 := lK ho2; replace HB := sB hb; clear hb ho2))
 go_ret
 exact ⟨_, eQ, mQ HO112, bQ⟩
def enc_others.f (a0 : Int) : Option (List ByteArray) := if a0 = 1 then ((enc_win.f).bind fun t113 => (some t113)) else (if a0 = 2 then ((enc_mac.f).bind fun t116 => (some t116)) else (if a0 = 3 then ((enc_symbol.f).bind fun t119 => (some t119)) else ((enc_standard.f).bind fun t122 => (some t122))))
set_option maxHeartbeats 8000000 in
set_option maxRecDepth 100000 in
theorem enc_others.calls (a0 : Int) (r : List ByteArray) (w : World) (h : enc_others.f a0 = some r) :
  Calls Tryz.prog 49 #[.int .i64 a0] w fun e w' => ∃ v0_ : Value, e = .returned (v0_) ∧ Kd.R Kd.string 9 w' w.heap.size (fun _ => True) v0_ r ∧ Below w.heap.size w w' := by
 have HB := aM (Below.refl w.heap.size w)
 have H : (if a0 = 1 then ((enc_win.f).bind fun t113 => (some t113)) else (if a0 = 2 then ((enc_mac.f).bind fun t116 => (some t116)) else (if a0 = 3 then ((enc_symbol.f).bind fun t119 => (some t119)) else ((enc_standard.f).bind fun t122 => (some t122))))) = some r := h
 clear h
 refine iEc H ?_ ?_<;>clear H<;>intro H c2b0 c2b1 c2
 ·clear c2
  replace H := bS H
  obtain ⟨t113, A3, H⟩ := H
  try dsimp only at H
  obtain rfl := Option.some.inj H
  go_enter Tryz.func49, Tryz.ntmps49
  go_wp2_with (first | ((with_reducible refine gC 77 ?_); refine gL (some 6) Tryz.func77 #[] ?_; (with_reducible refine (enc_win.calls  t113 _ A3.out).mono ?_); rintro e w4 ⟨v114, rfl, ho0, hb⟩; refine ⟨_, rfl, ?_⟩; have HO115 := lK ho0; replace HB := sB hb; clear hb ho0))
  go_ret
  exact ⟨_, eQ, mQ HO115, bQ⟩
 refine iEc H ?_ ?_<;>clear H<;>intro H c5b0 c5b1 c5
 ·clear c5
  replace H := bS H
  obtain ⟨t116, A6, H⟩ := H
  try dsimp only at H
  obtain rfl := Option.some.inj H
  go_enter Tryz.func49, Tryz.ntmps49
  go_wp2_with (first | ((with_reducible refine gC 78 ?_); refine gL (some 9) Tryz.func78 #[] ?_; (with_reducible refine (enc_mac.calls  t116 _ A6.out).mono ?_); rintro e w7 ⟨v117, rfl, ho0, hb⟩; refine ⟨_, rfl, ?_⟩; have HO118 := lK ho0; replace HB := sB hb; clear hb ho0))
  go_ret
  exact ⟨_, eQ, mQ HO118, bQ⟩
 refine iEc H ?_ ?_<;>clear H<;>intro H c8b0 c8b1 c8
 rotate_left
 ·replace H := bS H
  obtain ⟨t122, A11, H⟩ := H
  try dsimp only at H
  obtain rfl := Option.some.inj H
  go_enter Tryz.func49, Tryz.ntmps49
  go_wp2_with (first | ((with_reducible refine gC 80 ?_); refine gL (some 13) Tryz.func80 #[] ?_; (with_reducible refine (enc_standard.calls  t122 _ A11.out).mono ?_); rintro e w12 ⟨v123, rfl, ho0, hb⟩; refine ⟨_, rfl, ?_⟩; have HO124 := lK ho0; replace HB := sB hb; clear hb ho0))
  go_ret
  exact ⟨_, eQ, mQ HO124, bQ⟩
 clear c8
 replace H := bS H
 obtain ⟨t119, A9, H⟩ := H
 try dsimp only at H
 obtain rfl := Option.some.inj H
 go_enter Tryz.func49, Tryz.ntmps49
 go_wp2_with (first | ((with_reducible refine gC 79 ?_); refine gL (some 12) Tryz.func79 #[] ?_; (with_reducible refine (enc_symbol.calls  t119 _ A9.out).mono ?_); rintro e w10 ⟨v120, rfl, ho0, hb⟩; refine ⟨_, rfl, ?_⟩; have HO121 := lK ho0; replace HB := sB hb; clear hb ho0))
 go_ret
 exact ⟨_, eQ, mQ HO121, bQ⟩
end Go.Proofs.YtdcldaknmenklaaGreatDoor.M
end
section
namespace Go.Proofs.YtdcldaknmenklaaGreatDoor.M
open Go.RowKit Go.Proofs.YtdcldaknmenklaaGreatDoorW.PrintWords Go.Proofs.YtdcldaknmenklaaGreatDoorW.PrintLast Go.Proofs.YtdcldaknmenklaaGreatDoorW.PrintMore
set_option linter.unusedVariables false
set_option linter.unusedSimpArgs false
/-- An encoding's names, by the text of the program. -/
def encOf (k : Nat) (tag : Int) : Option (List ByteArray) :=
 (glyph_Names.f k).bind fun nm => (enc_others.f tag).bind fun ls => if 95 ≤ nm.length ∧ ls.length ≤ 1000000 then putLines (asciiL nm) ls else none
theorem putFields_length : ∀ {l n m : List ByteArray}, putFields n l = some m → m.length = n.length
 | [], n, m, h => by rw [putFields] at h; rw [Option.some.inj h]
 | f :: r, n, m, h => by
  rw [putFields] at h
  obtain ⟨x, hx, h⟩ := Option.bind_eq_some_iff.1 h
  rw [putFields_length h, putName_length hx]
theorem putLines_length : ∀ {l n m : List ByteArray}, putLines n l = some m → m.length = n.length
 | [], n, m, h => by rw [putLines] at h; rw [Option.some.inj h]
 | f :: r, n, m, h => by
  rw [putLines] at h
  obtain ⟨x, hx, h⟩ := Option.bind_eq_some_iff.1 h
  obtain ⟨y, hy, h⟩ := Option.bind_eq_some_iff.1 h
  rw [putLines_length h, putFields_length hy]
theorem encOf_length {k : Nat} {tag : Int} {r : List ByteArray} (h : encOf k tag = some r) : r.length = 256 := by
 unfold encOf at h
 obtain ⟨nm, hnm, h⟩ := Option.bind_eq_some_iff.1 h
 obtain ⟨ls, hls, h⟩ := Option.bind_eq_some_iff.1 h
 split at h
 case isFalse => cases h
 rename_i hb
 rw [putLines_length h, asciiL_length nm hb.1]
set_option maxHeartbeats 1000000 in
set_option maxRecDepth 1000000 in
theorem enc_of_calls (k : Nat) (tag : Int) (r : List ByteArray) (w : World) (hG : GW w) (h : encOf k tag = some r) :
  Calls Tryz.prog 37 #[.int .i64 tag] w fun e w' => e = .returned (.agg (namesV r)) ∧ Below w.heap.size w w' := by
 have hlen := encOf_length h
 unfold encOf at h
 replace h := Option.bind_eq_some_iff.1 h
 rcases h with ⟨nm, hnm, h⟩
 replace h := Option.bind_eq_some_iff.1 h
 rcases h with ⟨ls, hls, h⟩
 split at h
 case isFalse => cases h
 rename_i hb
 have hb1 := hb.1
 have hb2 := hb.2
 have HG := Aside0.mk hG
 have HH := Aside0.mk h
 have HNM := Aside0.mk hnm
 have HLS := Aside0.mk hls
 have HL := Aside0.mk hlen
 clear hG h hnm hls hlen hb
 go_enter Tryz.func37, Tryz.ntmps37
 go_wp2_with fail
 rw [zero_names]
 generalize hzz : namesV (List.replicate 256 noName) = Z
 have hz256 : Z.size = 256 := by rw [← hzz, namesV_size, List.length_replicate]
 clear hzz
 with_reducible refine (enc_ascii_calls k nm HNM.out hb1 _ (HG.out.alloc _)).mono ?_
 rintro e W1 ⟨rfl, b1⟩
 have hs1 : w.heap.size + 1 ≤ W1.heap.size := by have := b1.size; simpa using this
 have HZ1 : Aside0 (W1.heap[w.heap.size]? = some (.cells Z 73 (0, 0))) := ⟨(b1.block w.heap.size (by simp)).trans (by show (w.heap.push _)[w.heap.size]? = _; rw [Array.getElem?_push_size])⟩
 have HB1 : Aside0 (Below w.heap.size w W1) := ⟨below_step (below_alloc (Below.refl _ w) _) b1⟩
 clear b1
 generalize hV0 : namesV (asciiL nm) = V0
 have HV0 := Aside0.mk hV0
 clear hV0
 go_wp2_with fail
 with_reducible refine (enc_others.calls tag ls _ HLS.out).mono ?_
 rintro e W2 ⟨v0, rfl, hR, b2⟩
 obtain ⟨A2, c2, rfl⟩ := Kd.R_slice hR
 obtain ⟨-, hc2, hC2⟩ := Kd.R_reads' hR
 have hs2 : w.heap.size + 1 ≤ W2.heap.size := Nat.le_trans hs1 b2.size
 have HZ2 : Aside0 (W2.heap[w.heap.size]? = some (.cells Z 73 (0, 0))) := ⟨(b2.block w.heap.size (by omega)).trans HZ1.out⟩
 have HB2 : Aside0 (Below w.heap.size w W2) := ⟨below_step HB1.out b2⟩
 have HC2 := Aside0.mk hC2
 clear b2 hR hC2 HZ1 HB1
 go_wp2_with fail
 rw [← HV0.out]
 with_reducible refine (enc_with_calls (asciiL nm) (asciiL_length nm hb1) A2 c2 ls r _ HC2.out hc2 hb2 (HG.out.below HB2.out) HH.out).mono ?_
 rintro e W3 ⟨rfl, b3⟩
 have hs3 : w.heap.size + 1 ≤ W3.heap.size := Nat.le_trans hs2 b3.size
 have HZ3 : Aside0 (W3.heap[w.heap.size]? = some (.cells Z 73 (0, 0))) := ⟨(b3.block w.heap.size (by omega)).trans HZ2.out⟩
 have HB3 : Aside0 (Below w.heap.size w W3) := ⟨below_step HB2.out b3⟩
 clear b3 HZ2 HB2
 rw [HV0.out]
 have hRs : (namesV r).size = 256 := by rw [namesV_size]; exact HL.out
 have hone : (namesV r).all (·.oneCell') = true := namesV_one _
 generalize hROW : namesV r = ROW at hRs hone ⊢
 have HROW := Aside0.mk hROW
 clear hROW
 go_wp2_with (first | (refine wpList_store_row rfl 73 (.tmp 2) (.tmp 6) rfl w.heap.size ROW rfl rfl 73 _ HZ3.out (by rw [hRs]; kernel_rfl) (by rw [hz256, hRs]) hone ?_))
 refine bodyPost_ret (v := .agg ROW) ?_ rfl ⟨by first | rfl | rw [HROW.out], below_setRow HB3.out (by omega) _⟩
 exact results_cell_row (fn := Tryz.f37) (p := 2) (ty := 73) rfl _ _ w.heap.size 73 ROW (0, 0) _ rfl (setRow_heap W3 _ _ ROW 73 (0, 0) HZ3.out) Tryz.underlying73 rfl (by rw [hRs]; kernel_rfl)
end Go.Proofs.YtdcldaknmenklaaGreatDoor.M
end
section
namespace Go.Proofs.YtdcldaknmenklaaGreatDoor.M
open Go.RowKit Go.Proofs.YtdcldaknmenklaaGreatDoorW.PrintWords Go.Proofs.YtdcldaknmenklaaGreatDoorW.PrintLast Go.Proofs.YtdcldaknmenklaaGreatDoorW.PrintMore
attribute [local go_sem] max2_int min2_int max_two min_two max_three min_three max_four min_four
set_option linter.unusedVariables false
set_option linter.unusedSimpArgs false
def enc_Sane.f (a0 : Int) : Option (Bool) := if a0 ≥ 0 then (some (decide (a0 < 4))) else (some false)
set_option maxHeartbeats 8000000 in
set_option maxRecDepth 100000 in
theorem enc_Sane.calls (a0 : Int) (r : Bool) (w : World) (h : enc_Sane.f a0 = some r) :
  Calls Tryz.prog 26 #[.int .i64 a0] w fun e w' => e = .returned (.bool r) ∧ Drawn0 w w' := by
 have H : (if a0 ≥ 0 then (some (decide (a0 < 4))) else (some false)) = some r := h
 clear h
 refine iNc H ?_ ?_<;>clear H<;>intro H c2
 ·have c2b0 : decide (0 ≤ a0) = true := decide_eq_true c2
  clear c2
  obtain rfl := Option.some.inj H
  go_enter Tryz.func26, Tryz.ntmps26
  go_wp2
  go_ret
  exact ⟨by first | rfl | (simp; done) | (simp [*]; done), by repeat (first | exact Drawn0.refl _ | apply Drawn0.step)⟩
 have c2b0 : decide (0 ≤ a0) = false := decide_eq_false c2
 clear c2
 obtain rfl := Option.some.inj H
 go_enter Tryz.func26, Tryz.ntmps26
 go_wp2
 go_ret
 exact ⟨by first | rfl | (simp; done) | (simp [*]; done), by repeat (first | exact Drawn0.refl _ | apply Drawn0.step)⟩
theorem encOf_mono (tag : Int) (k : Nat) : LeO (encOf k tag) (encOf (k + 1) tag) := by
 unfold encOf
 exact LeO.bind (glyph_Names.mono k) (fun _ => LeO.refl _)
theorem sane_yes {t : Int} (h0 : 0 ≤ t) (h1 : t < 4) : enc_Sane.f t = some true := by
 unfold enc_Sane.f; rw [if_pos (by omega)]; simp [h1]
theorem sane_no {t : Int} (h : ¬ (0 ≤ t ∧ t < 4)) : enc_Sane.f t = some false := by
 unfold enc_Sane.f
 by_cases h0 : t ≥ 0
 ·rw [if_pos h0]; simp; omega
 ·rw [if_neg h0]
end Go.Proofs.YtdcldaknmenklaaGreatDoor.M
end
section
namespace Go.Proofs.YtdcldaknmenklaaGreatDoor.M
open Go.RowKit Go.Proofs.YtdcldaknmenklaaGreatDoorW.PrintWords Go.Proofs.YtdcldaknmenklaaGreatDoorW.PrintLast Go.Proofs.YtdcldaknmenklaaGreatDoorW.PrintMore
set_option linter.unusedVariables false
set_option linter.unusedSimpArgs false
def enc_All.f (k : Nat) (a0 : Int) : Option (List ByteArray) := if 0 ≤ a0 ∧ a0 < 4 then encOf k a0 else some []
theorem names_own (w : World) (g base : Nat) (xs : List ByteArray) (t : TypeId) (n : Nat) (hn : xs.length = n) (hb : base ≤ g) (hm : n ≤ maxLen) (h : w.heap[g]? = some (.cells (namesV xs) t (0, 0))) :
  Kd.R Kd.string t w base (fun _ => True) (.slice (some ⟨g, 0, none⟩) n n) xs := by
 subst hn
 refine Kd.R_of_own ?_ (fun _ _ => trivial)
 refine ⟨by simp [encs], .inr ⟨g, xs.length, namesV xs, rfl, hb, h, Nat.le_refl _, hm, by rw [namesV_size, Nat.mul_one], ?_⟩⟩
 rw [Nat.mul_one, List.take_of_length_le (by rw [Array.length_toList, namesV_size]; exact Nat.le_refl _)]
 simp [namesV, encs]
set_option maxHeartbeats 1000000 in
set_option maxRecDepth 1000000 in
theorem enc_All.calls (k : Nat) (a0 : Int) (r : List ByteArray) (w : World) (hG : GW w) (h : enc_All.f k a0 = some r) :
  Calls Tryz.prog 25 #[.int .i64 a0] w fun e w' => ∃ v0_ : Value, e = .returned (v0_) ∧ Kd.R Kd.string 73 w' w.heap.size (fun _ => True) v0_ r ∧ Below w.heap.size w w' := by
 unfold enc_All.f at h
 have HG := Aside0.mk hG
 clear hG
 by_cases hs : 0 ≤ a0 ∧ a0 < 4
 ·have HS := Aside0.mk (sane_yes hs.1 hs.2)
  rw [if_pos hs] at h
  have HLen := Aside0.mk (encOf_length h)
  have HL := Aside0.mk h
  clear h hs
  go_enter Tryz.func25, Tryz.ntmps25
  go_wp2_with fail
  with_reducible refine (enc_Sane.calls a0 true _ HS.out).mono ?_
  rintro e W1 ⟨rfl, d1⟩
  have HB1 := Aside0.mk d1.below
  clear d1
  go_wp2_with fail
  with_reducible refine (enc_of_calls k a0 r _ (HG.out.below HB1.out) HL.out).mono ?_
  rintro e W2 ⟨rfl, b2⟩
  have HB2 := Aside0.mk (below_step HB1.out b2)
  clear b2
  have hRs : (namesV r).size = 256 := by rw [namesV_size]; exact HLen.out
  have hone : (namesV r).all (·.oneCell') = true := namesV_one _
  generalize hROW : namesV r = ROW at hRs hone ⊢
  have HROW := Aside0.mk hROW
  clear hROW
  have hz : Tryz.zeroCells73.size = 256 := by rw [zero_names, namesV_size, List.length_replicate]
  have HZ := Aside0.mk hz
  clear hz
  go_wp2_with (refine wpList_store_row rfl 73 (.tmp 3) (.tmp 8) rfl W2.heap.size ROW rfl rfl 73 Tryz.zeroCells73 (by show (W2.heap.push _)[W2.heap.size]? = _; rw [Array.getElem?_push_size]) (by rw [hRs]; kernel_rfl) (by rw [hRs]; exact HZ.out) hone ?_)
  go_ret
  refine ⟨_, rfl, names_own _ W2.heap.size _ r 73 256 HLen.out HB2.out.size (by unfold maxLen; omega) ?_, below_setRow (below_alloc HB2.out _) HB2.out.size _⟩
  rw [HROW.out]
  exact setRow_heap _ _ _ ROW 73 (0, 0) (by show (W2.heap.push _)[W2.heap.size]? = _; rw [Array.getElem?_push_size])
 ·rw [if_neg hs] at h
  replace h := Option.some.inj h
  subst h
  have HS := Aside0.mk (sane_no hs)
  clear hs
  go_enter Tryz.func25, Tryz.ntmps25
  go_wp2_with fail
  with_reducible refine (enc_Sane.calls a0 false _ HS.out).mono ?_
  rintro e W1 ⟨rfl, d1⟩
  have HB1 := Aside0.mk d1.below
  clear d1
  go_wp2
  go_ret
  exact ⟨_, rfl, Kd.R_nil _ _ _ _ _, HB1.out⟩
end Go.Proofs.YtdcldaknmenklaaGreatDoor.M
end
section
namespace Go.Proofs.YtdcldaknmenklaaGreatDoor.M
open Go.RowKit Go.Proofs.YtdcldaknmenklaaGreatDoorW.PrintWords Go.Proofs.YtdcldaknmenklaaGreatDoorW.PrintLast Go.Proofs.YtdcldaknmenklaaGreatDoorW.PrintMore
attribute [local go_sem] max2_int min2_int max_two min_two max_three min_three max_four min_four
set_option linter.unusedVariables false
set_option linter.unusedSimpArgs false
def diff_Make.f (k : Nat) (a0 : Int) (l1 : List (S32)) : Option (List ByteArray × Int × Int) := (enc_All.f k a0).bind fun t163 => ((diff_Apply.f t163 l1).bind fun bt166 => (some (bt166.1, bt166.2.1, bt166.2.2)))
set_option maxHeartbeats 8000000 in
set_option maxRecDepth 100000 in
theorem diff_Make.calls (k : Nat) (a0 : Int) (A1 : Option Addr) (c1 : Nat) (l1 : List (S32)) (r1 : List ByteArray) (r2 : Int) (r3 : Int) (w : World) (hG : GW w) (hr1 : Kd.C k32 w A1 l1.length l1) (hc1 : l1.length ≤ c1) (h : diff_Make.f k a0 l1 = some (r1, r2, r3)) :
  Calls Tryz.prog 11 #[.int .i64 a0, .slice A1 l1.length c1] w fun e w' => ∃ v0_ : Value, e = .returned (.tuple #[v0_, .int .i64 r2, .int .i64 r3]) ∧ Kd.R Kd.string 9 w' w.heap.size (fun _ => True) v0_ r1 ∧ Below w.heap.size w w' := by
 have HR1 := aM hr1
 have HC1 := aM hc1
 clear hr1 hc1
 have HG := aM hG
 clear hG
 have HB := aM (Below.refl w.heap.size w)
 have H : ((enc_All.f k a0).bind fun t163 => ((diff_Apply.f t163 l1).bind fun bt166 => (some (bt166.1, bt166.2.1, bt166.2.2)))) = some (r1, r2, r3) := h
 clear h
 replace H := bS H
 obtain ⟨t163, A3, H⟩ := H
 try dsimp only at H
 replace H := bS H
 obtain ⟨⟨t166, t167, t168⟩, A4, H⟩ := H
 try dsimp only at H
 simp only [Option.some.injEq, Prod.mk.injEq] at H
 obtain ⟨rfl, rfl, rfl⟩ := H
 go_enter Tryz.func11, Tryz.ntmps11
 go_wp2_with (first | ((with_reducible refine gC 25 ?_); refine gL (some 8) Tryz.func25 #[.int .i64 a0] ?_; (with_reducible refine (enc_All.calls k a0 t163 _ ?side1 A3.out).mono ?_); (case side1 => exact gQ HG.out); rintro e w5 ⟨v164, rfl, ho0, hb⟩; refine ⟨_, rfl, ?_⟩; have HO165 := lK ho0; replace HB := sB hb; clear hb ho0; obtain ⟨Ao6, co6, eo6⟩ := Kd.R_slice HO165.out; subst eo6) | ((with_reducible refine gC 13 ?_); refine gL (some 10) Tryz.func13 #[.slice Ao6 t163.length co6, .slice A1 l1.length c1] ?_; (with_reducible refine (diff_Apply.calls _ _ t163 _ _ l1 t166 t167 t168 _ ?side1 ?side2 ?side3 ?side4 A4.out).mono ?_); (case side1 => exact cQ HO165); (case side2 => exact (Kd.R_reads' HO165.out).2.1); (case side3 => repeat (first | exact (Kd.C_below HR1.out HB.out) | (with_reducible first|refine Kd.C_alloc ?_ _|refine Kd.C_drewN ?_ _|refine Kd.C_drew ?_))); (case side4 => exact HC1.out); rintro e w7 ⟨v169, rfl, ho0, hb⟩; refine ⟨_, rfl, ?_⟩; have HO170 := nK ho0 HO165; replace HO165 := eK HO165 ho0 hb; replace HB := sB hb; clear hb ho0))
 go_ret3
 exact ⟨_, eQ, by (with_reducible repeat first|apply rA|apply rD|apply r1); exact Kd.R_mono HO170.out (fun _ hk => trivial), bQ⟩
def hornbooklaw17_ours.l0 : Nat → List (S34) → List (S32) → Int → Option ((List (S32)))
 | 0, _, _, _ => none
 | k + 1, x0, x3, x4 => if x4 < (x0.length : Int) then (if 0 ≤ x4 then (if x3.length < 4398046511104 then (hornbooklaw17_ours.l0 k x0 (x3 ++ [(⟨(rd_T34 x0 x4).f0, (rd_T34 x0 x4).f1, (rd_T34 x0 x4).f2⟩ : S32)]) (wrap64 (x4 + 1))) else (none)) else (none)) else (some x3)
def hornbooklaw17_ours.f (k : Nat) (l0 : List (S34)) : Option ((List (S32))) := hornbooklaw17_ours.l0 k l0 ([] : List (S32)) 0
def hornbooklaw17_ours.T5 : Bool × List (List Nat × List Nat) := (true, [([], []), ([], []), ([], []), ([1, 2], [1, 2]), ([3], [3]), ([4], [4]), ([], []), ([], []), ([6, 7], [6, 7]), ([8], [8]), ([9], [9]), ([], []), ([], []), ([11, 12], [11, 12]), ([13], [13]), ([14], [14]), ([5, 10, 15], [5, 10, 15]), ([16], [16]), ([0, 17], [0, 17]), ([18, 18, 0, 1, 2, 3, 4, 5, 6, 7, 8, 9, 10, 11, 12, 13, 14, 15, 16, 17, 18], [0, 18])])
def hornbooklaw17_ours.B5 : List Nat := [0, 0, 0, 6, 14, 30, 0, 0, 192, 448, 960, 0, 0, 6144, 14336, 30720, 65534, 131070, 262143, 524287]
theorem hornbooklaw17_ours.tab5 : rtab .any (opsOf Tryz.f12 5) = hornbooklaw17_ours.T5 := by kernel_rfl
theorem hornbooklaw17_ours.bits5 : waitsOk hornbooklaw17_ours.T5.2 hornbooklaw17_ours.B5 = true := by kernel_rfl
set_option maxHeartbeats 8000000 in
set_option maxRecDepth 100000 in
theorem hornbooklaw17_ours.calls (k : Nat) (A0 : Option Addr) (c0 : Nat) (l0 : List (S34)) (r : List (S32)) (w : World) (hr0 : Kd.C k34 w A0 l0.length l0) (hc0 : l0.length ≤ c0) (h : hornbooklaw17_ours.f k l0 = some r) :
  Calls Tryz.prog 12 #[.slice A0 l0.length c0] w fun e w' => ∃ v0_ : Value, e = .returned (v0_) ∧ Kd.R k32 32 w' w.heap.size (fun _ => True) v0_ r ∧ Below w.heap.size w w' := by
 have hu32 := Tryz.underlying32
 have HR0 := aM hr0
 have HC0 := aM hc0
 clear hr0 hc0
 have HB := aM (Below.refl w.heap.size w)
 have H : (hornbooklaw17_ours.l0 k l0 ([] : List (S32)) 0) = some r := h
 clear h
 have H' := aM H
 clear H
 go_enter Tryz.func12, Tryz.ntmps12
 go_wp2
 go_loopg [3, 4] k (fun kq v3 v4 w' => ∃ (x3_1 : List (S32)) (x4_1 : Int), v4 = .int .i64 x4_1 ∧ Aside0 (hornbooklaw17_ours.l0 kq l0 x3_1 x4_1 = some r) ∧ Aside0 (kq ≤ k) ∧ Aside0 (Kd.R k32 32 w' w.heap.size (fun _ => True) v3 x3_1) ∧ Aside0 (Below w.heap.size w w'))
 case atStart => exact ⟨(([] : List (S32))), (0), vQ, H', ⟨Nat.le_refl _⟩, ⟨by first | exact Kd.R_nil _ _ _ _ _ | exact Kd.N_nil _ _ _ _ _ | exact Kd.V_nil _ _ _ _ _ | exact Kd.Q_nil _ _ _ _ _ | exact Kd.S_nil _ _ _ _ _⟩, ⟨bQ⟩⟩
 case round =>
  clear H'
  try clear c1
  obtain ⟨x3_1, x4_1, rfl, HA, HK1, HO_3, HB⟩ := hrel
  cases gk with
  | zero => exact absurd HA.out (by simp [hornbooklaw17_ours.l0])
  | succ k1 =>
   have H := HA.out
   clear HA
   simp only [hornbooklaw17_ours.l0] at H
   refine iD H ?_ ?_<;>clear H<;>intro H c2b0
   rotate_left
   ·obtain rfl := Option.some.inj H
    go_wp2
    go_ret
    exact ⟨_, eQ, mQ HO_3, bQ⟩
   refine iD H ?_ ?_<;>clear H<;>intro H c3b0
   rotate_left
   ·exact absurd H (by simp)
   refine iNc H ?_ ?_<;>clear H<;>intro H c4
   rotate_left
   ·exact absurd H (by simp)
   have LMc4 := aM c4
   clear c4
   obtain ⟨y293, hy293⟩ : ∃ y_ : List (S32), y_ = (x3_1 ++ [(⟨(rd_T34 l0 x4_1).f0, (rd_T34 l0 x4_1).f1, (rd_T34 l0 x4_1).f2⟩ : S32)]) := ⟨_, rfl⟩
   replace H : (hornbooklaw17_ours.l0 k1 l0 y293 (wrap64 (x4_1 + 1))) = some r := by first | (rw [hy293]; with_reducible exact H) | (have H2_ := (Option.bind_some _ _).symm.trans H; rw [hy293]; with_reducible exact H2_) | (have H2_ := (Option.bind_some _ _).symm.trans H; with_reducible exact H2_) | with_reducible exact H | (rw [hy293]; exact H) | exact H
   have Ny293 := aM hy293
   clear hy293
   have H' := aM H
   clear H
   try go_wp2
   have n0_ := aM (Kd.R_drew HO_3.out)
   have n1_ := aM (below_drew1 HB.out)
   clear HO_3
   clear HB
   have HO_3 := n0_
   have HB := n1_
   clear n0_ n1_
   have p290 : 0 ≤ (x4_1 : Int) := of_decide_eq_true hQ
   have q290 : x4_1 < (l0.length : Int) := of_decide_eq_true hQ
   obtain ⟨ad290, e290, hx290_0, hx290_1, hx290_2⟩ := at_T34 HR0.out x4_1 p290 q290
   have hw290_2 := hx290_2
   have hw290_1 := hx290_1
   have hw290_0 := hx290_0
   cases e290
   replace hx290_0 := (HB.out.cell (World.block_lt_of_cell? w _ hx290_0)).trans hx290_0
   replace hx290_1 := (HB.out.cell (World.block_lt_of_cell? w _ hx290_1)).trans hx290_1
   replace hx290_2 := (HB.out.cell (World.block_lt_of_cell? w _ hx290_2)).trans hx290_2
   replace p290 := eq_true p290
   replace q290 := eq_true q290
   have p291 : 0 ≤ (x4_1 : Int) := of_decide_eq_true hQ
   have q291 : x4_1 < (l0.length : Int) := of_decide_eq_true hQ
   obtain ⟨ad291, e291, hx291_0, hx291_1, hx291_2⟩ := at_T34 HR0.out x4_1 p291 q291
   have hw291_2 := hx291_2
   have hw291_1 := hx291_1
   have hw291_0 := hx291_0
   obtain rfl : ad290 = ad291 := (by injection e291)
   replace hx291_0 := (HB.out.cell (World.block_lt_of_cell? w _ hx291_0)).trans hx291_0
   replace hx291_1 := (HB.out.cell (World.block_lt_of_cell? w _ hx291_1)).trans hx291_1
   replace hx291_2 := (HB.out.cell (World.block_lt_of_cell? w _ hx291_2)).trans hx291_2
   replace p291 := eq_true p291
   replace q291 := eq_true q291
   have p292 : 0 ≤ (x4_1 : Int) := of_decide_eq_true hQ
   have q292 : x4_1 < (l0.length : Int) := of_decide_eq_true hQ
   obtain ⟨ad292, e292, hx292_0, hx292_1, hx292_2⟩ := at_T34 HR0.out x4_1 p292 q292
   have hw292_2 := hx292_2
   have hw292_1 := hx292_1
   have hw292_0 := hx292_0
   obtain rfl : ad290 = ad292 := (by injection e292)
   replace hx292_0 := (HB.out.cell (World.block_lt_of_cell? w _ hx292_0)).trans hx292_0
   replace hx292_1 := (HB.out.cell (World.block_lt_of_cell? w _ hx292_1)).trans hx292_1
   replace hx292_2 := (HB.out.cell (World.block_lt_of_cell? w _ hx292_2)).trans hx292_2
   replace p292 := eq_true p292
   replace q292 := eq_true q292
   refine start_ (n := 20) (S := fun w' => w'.cell? (ad290.add ((x4_1).toNat * 3)) = some (.bool ((rd_T34 l0 x4_1).f0)) ∧ w'.cell? ⟨(ad290.add ((x4_1).toNat * 3)).block, (ad290.add ((x4_1).toNat * 3)).off + 1, none⟩ = some (.int .i64 ((rd_T34 l0 x4_1).f1)) ∧ w'.cell? ⟨(ad290.add ((x4_1).toNat * 3)).block, (ad290.add ((x4_1).toNat * 3)).off + 2, none⟩ = some (.string ((rd_T34 l0 x4_1).f2)) ∧ w'.cell? (ad290.add ((x4_1).toNat * 3)) = some (.bool ((rd_T34 l0 x4_1).f0)) ∧ w'.cell? ⟨(ad290.add ((x4_1).toNat * 3)).block, (ad290.add ((x4_1).toNat * 3)).off + 1, none⟩ = some (.int .i64 ((rd_T34 l0 x4_1).f1)) ∧ w'.cell? ⟨(ad290.add ((x4_1).toNat * 3)).block, (ad290.add ((x4_1).toNat * 3)).off + 2, none⟩ = some (.string ((rd_T34 l0 x4_1).f2)) ∧ w'.cell? (ad290.add ((x4_1).toNat * 3)) = some (.bool ((rd_T34 l0 x4_1).f0)) ∧ w'.cell? ⟨(ad290.add ((x4_1).toNat * 3)).block, (ad290.add ((x4_1).toNat * 3)).off + 1, none⟩ = some (.int .i64 ((rd_T34 l0 x4_1).f1)) ∧ w'.cell? ⟨(ad290.add ((x4_1).toNat * 3)).block, (ad290.add ((x4_1).toNat * 3)).off + 2, none⟩ = some (.string ((rd_T34 l0 x4_1).f2))) (ds := []) #[false, false, false, false, false, false, false, false, false, false, false, false, false, false, false, false, false, false, false, false] (by kernel_rfl) rfl rfl ⟨((HB.out.cell (World.block_lt_of_cell? w _ hw290_0)).trans hw290_0), ((HB.out.cell (World.block_lt_of_cell? w _ hw290_1)).trans hw290_1), ((HB.out.cell (World.block_lt_of_cell? w _ hw290_2)).trans hw290_2), ((HB.out.cell (World.block_lt_of_cell? w _ hw291_0)).trans hw291_0), ((HB.out.cell (World.block_lt_of_cell? w _ hw291_1)).trans hw291_1), ((HB.out.cell (World.block_lt_of_cell? w _ hw291_2)).trans hw291_2), ((HB.out.cell (World.block_lt_of_cell? w _ hw292_0)).trans hw292_0), ((HB.out.cell (World.block_lt_of_cell? w _ hw292_1)).trans hw292_1), ((HB.out.cell (World.block_lt_of_cell? w _ hw292_2)).trans hw292_2)⟩ (fun hHeld => ?_); refine with_tabW hornbooklaw17_ours.tab5 hornbooklaw17_ours.bits5 (fun HT_ HW_ => ?_)
   generalize wr.drew = w5 at HO_3 HB hx290_0 hx290_1 hx290_2 hx291_0 hx291_1 hx291_2 hx292_0 hx292_1 hx292_2 hHeld ⊢
   refine pure_ (i := 0) (N := some 11) (v := ?_) (a' := ?_) #[true, false, false, false, false, false, false, false, false, false, false, false, false, false, false, false, false, false, false, false] rfl rfl (any_of HT_.out (by kernel_rfl)) (fun _ _ _ h => h) (Or.inl ⟨by rfl, ?_⟩) ?_ ?_
   rotate_left
   ·intro w'
    go_simp
    with_reducible rfl
   rotate_left
   ·simp only [Act.put, List.setIfInBounds_toArray, List.set_cons_zero, List.set_cons_succ, i64_w, i32_w]
    rfl
   refine pure_ (i := 1) (N := some 12) (v := ?_) (a' := ?_) #[true, true, false, false, false, false, false, false, false, false, false, false, false, false, false, false, false, false, false, false] rfl rfl (any_of HT_.out (by kernel_rfl)) (fun _ _ _ h => h) (Or.inl ⟨by rfl, ?_⟩) ?_ ?_
   rotate_left
   ·intro w'
    go_simp
    with_reducible rfl
   rotate_left
   ·simp only [Act.put, List.setIfInBounds_toArray, List.set_cons_zero, List.set_cons_succ, i64_w, i32_w]
    rfl
   refine pure_ (i := 2) (N := some 13) (v := ?_) (a' := ?_) #[true, true, true, false, false, false, false, false, false, false, false, false, false, false, false, false, false, false, false, false] rfl rfl (any_of HT_.out (by kernel_rfl)) (fun _ _ _ h => h) (Or.inl ⟨by rfl, ?_⟩) ?_ ?_
   rotate_left
   ·intro w'
    go_simp
    with_reducible rfl
   rotate_left
   ·simp only [Act.put, List.setIfInBounds_toArray, List.set_cons_zero, List.set_cons_succ, i64_w, i32_w]
    rfl
   refine pure_ (i := 3) (N := some 14) (v := ?_) (a' := ?_) #[true, true, true, true, false, false, false, false, false, false, false, false, false, false, false, false, false, false, false, false] rfl rfl (any_of HT_.out (by kernel_rfl)) (fun _ _ _ h => h) (Or.inl ⟨by rfl, ?_⟩) ?_ ?_
   rotate_left
   ·intro w'
    go_simp
    with_reducible rfl
   rotate_left
   ·simp only [Act.put, List.setIfInBounds_toArray, List.set_cons_zero, List.set_cons_succ, i64_w, i32_w]
    rfl
   refine pure_ (i := 4) (N := some 15) (v := ?_) (a' := ?_) #[true, true, true, true, true, false, false, false, false, false, false, false, false, false, false, false, false, false, false, false] rfl rfl (any_of HT_.out (by kernel_rfl)) (fun _ _ _ h => h) (Or.inl ⟨by rfl, ?_⟩) ?_ ?_
   rotate_left
   ·intro w'
    go_simp
    with_reducible rfl
   rotate_left
   ·simp only [Act.put, List.setIfInBounds_toArray, List.set_cons_zero, List.set_cons_succ, i64_w, i32_w]
    rfl
   refine pure_ (i := 6) (N := some 17) (v := ?_) (a' := ?_) #[true, true, true, true, true, false, true, false, false, false, false, false, false, false, false, false, false, false, false, false] rfl rfl (any_of HT_.out (by kernel_rfl)) (fun _ _ _ h => h) (Or.inl ⟨by rfl, ?_⟩) ?_ ?_
   rotate_left
   ·intro w'
    go_simp
    with_reducible rfl
   rotate_left
   ·simp only [Act.put, List.setIfInBounds_toArray, List.set_cons_zero, List.set_cons_succ, i64_w, i32_w]
    rfl
   refine pure_ (i := 7) (N := some 18) (v := ?_) (a' := ?_) #[true, true, true, true, true, false, true, true, false, false, false, false, false, false, false, false, false, false, false, false] rfl rfl (any_of HT_.out (by kernel_rfl)) (fun _ _ _ h => h) (Or.inl ⟨by rfl, ?_⟩) ?_ ?_
   rotate_left
   ·intro w'
    go_simp
    with_reducible rfl
   rotate_left
   ·simp only [Act.put, List.setIfInBounds_toArray, List.set_cons_zero, List.set_cons_succ, i64_w, i32_w]
    rfl
   refine pure_ (i := 8) (N := some 19) (v := ?_) (a' := ?_) #[true, true, true, true, true, false, true, true, true, false, false, false, false, false, false, false, false, false, false, false] rfl rfl (any_of HT_.out (by kernel_rfl)) (fun _ _ _ h => h) (Or.inl ⟨by rfl, ?_⟩) ?_ ?_
   rotate_left
   ·intro w'
    go_simp
    with_reducible rfl
   rotate_left
   ·simp only [Act.put, List.setIfInBounds_toArray, List.set_cons_zero, List.set_cons_succ, i64_w, i32_w]
    rfl
   refine pure_ (i := 9) (N := some 20) (v := ?_) (a' := ?_) #[true, true, true, true, true, false, true, true, true, true, false, false, false, false, false, false, false, false, false, false] rfl rfl (any_of HT_.out (by kernel_rfl)) (fun _ _ _ h => h) (Or.inl ⟨by rfl, ?_⟩) ?_ ?_
   rotate_left
   ·intro w'
    go_simp
    with_reducible rfl
   rotate_left
   ·simp only [Act.put, List.setIfInBounds_toArray, List.set_cons_zero, List.set_cons_succ, i64_w, i32_w]
    rfl
   refine pure_ (i := 11) (N := some 22) (v := ?_) (a' := ?_) #[true, true, true, true, true, false, true, true, true, true, false, true, false, false, false, false, false, false, false, false] rfl rfl (any_of HT_.out (by kernel_rfl)) (fun _ _ _ h => h) (Or.inl ⟨by rfl, ?_⟩) ?_ ?_
   rotate_left
   ·intro w'
    go_simp
    with_reducible rfl
   rotate_left
   ·simp only [Act.put, List.setIfInBounds_toArray, List.set_cons_zero, List.set_cons_succ, i64_w, i32_w]
    rfl
   refine pure_ (i := 12) (N := some 23) (v := ?_) (a' := ?_) #[true, true, true, true, true, false, true, true, true, true, false, true, true, false, false, false, false, false, false, false] rfl rfl (any_of HT_.out (by kernel_rfl)) (fun _ _ _ h => h) (Or.inl ⟨by rfl, ?_⟩) ?_ ?_
   rotate_left
   ·intro w'
    go_simp
    with_reducible rfl
   rotate_left
   ·simp only [Act.put, List.setIfInBounds_toArray, List.set_cons_zero, List.set_cons_succ, i64_w, i32_w]
    rfl
   refine pure_ (i := 13) (N := some 24) (v := ?_) (a' := ?_) #[true, true, true, true, true, false, true, true, true, true, false, true, true, true, false, false, false, false, false, false] rfl rfl (any_of HT_.out (by kernel_rfl)) (fun _ _ _ h => h) (Or.inl ⟨by rfl, ?_⟩) ?_ ?_
   rotate_left
   ·intro w'
    go_simp
    with_reducible rfl
   rotate_left
   ·simp only [Act.put, List.setIfInBounds_toArray, List.set_cons_zero, List.set_cons_succ, i64_w, i32_w]
    rfl
   refine pure_ (i := 14) (N := some 25) (v := ?_) (a' := ?_) #[true, true, true, true, true, false, true, true, true, true, false, true, true, true, true, false, false, false, false, false] rfl rfl (any_of HT_.out (by kernel_rfl)) (fun _ _ _ h => h) (Or.inl ⟨by rfl, ?_⟩) ?_ ?_
   rotate_left
   ·intro w'
    go_simp
    with_reducible rfl
   rotate_left
   ·simp only [Act.put, List.setIfInBounds_toArray, List.set_cons_zero, List.set_cons_succ, i64_w, i32_w]
    rfl
   refine take_ (i := 5) (N := some 16) (v := ?_) (a' := ?_) #[true, true, true, true, true, true, true, true, true, true, false, true, true, true, true, false, false, false, false, false] rfl rfl (take_ofW HT_.out HW_.out (by kernel_rfl)) (fun _ _ _ h => h) (Or.inl ⟨by rfl, ?_⟩) hHeld ?_ ?_
   rotate_left
   ·rintro w' ⟨s0, s1, s2, s3, s4, s5, s6, s7, s8⟩
    go_simp
    with_reducible rfl
   rotate_left
   ·simp only [Act.put, List.setIfInBounds_toArray, List.set_cons_zero, List.set_cons_succ, i64_w, i32_w]
    rfl
   refine take_ (i := 10) (N := some 21) (v := ?_) (a' := ?_) #[true, true, true, true, true, true, true, true, true, true, true, true, true, true, true, false, false, false, false, false] rfl rfl (take_ofW HT_.out HW_.out (by kernel_rfl)) (fun _ _ _ h => h) (Or.inl ⟨by rfl, ?_⟩) hHeld ?_ ?_
   rotate_left
   ·rintro w' ⟨s0, s1, s2, s3, s4, s5, s6, s7, s8⟩
    go_simp
    with_reducible rfl
   rotate_left
   ·simp only [Act.put, List.setIfInBounds_toArray, List.set_cons_zero, List.set_cons_succ, i64_w, i32_w]
    rfl
   refine take_ (i := 15) (N := some 26) (v := ?_) (a' := ?_) #[true, true, true, true, true, true, true, true, true, true, true, true, true, true, true, true, false, false, false, false] rfl rfl (take_ofW HT_.out HW_.out (by kernel_rfl)) (fun _ _ _ h => h) (Or.inl ⟨by rfl, ?_⟩) hHeld ?_ ?_
   rotate_left
   ·rintro w' ⟨s0, s1, s2, s3, s4, s5, s6, s7, s8⟩
    go_simp
    with_reducible rfl
   rotate_left
   ·simp only [Act.put, List.setIfInBounds_toArray, List.set_cons_zero, List.set_cons_succ, i64_w, i32_w]
    rfl
   refine pure_ (i := 16) (N := some 27) (v := ?_) (a' := ?_) #[true, true, true, true, true, true, true, true, true, true, true, true, true, true, true, true, true, false, false, false] rfl rfl (any_of HT_.out (by kernel_rfl)) (fun _ _ _ h => h) (Or.inl ⟨by rfl, ?_⟩) ?_ ?_
   rotate_left
   ·intro w'
    go_simp
    with_reducible rfl
   rotate_left
   ·simp only [Act.put, List.setIfInBounds_toArray, List.set_cons_zero, List.set_cons_succ, i64_w, i32_w]
    rfl
   refine one_ (i := 17) (N := some 28) #[true, true, true, true, true, true, true, true, true, true, true, true, true, true, true, true, true, true, false, false] rfl rfl (one_of HT_.out (by kernel_rfl)) (by decide) (fun K hK => ?_)
   refine value_ (w1 := ?_) (v := ?_) (by rfl) rfl ?_ ?_
   rotate_left 2
   ·go_simp
    constructor
    ·rfl
    ·rfl
   refine hK.out _ _ ⟨(World.cell?_alloc_lt _ _ _ (World.block_lt_of_cell? _ _ (((HB.out.cell (World.block_lt_of_cell? w _ hw290_0)).trans hw290_0)))).trans (((HB.out.cell (World.block_lt_of_cell? w _ hw290_0)).trans hw290_0)), (World.cell?_alloc_lt _ _ _ (World.block_lt_of_cell? _ _ (((HB.out.cell (World.block_lt_of_cell? w _ hw290_1)).trans hw290_1)))).trans (((HB.out.cell (World.block_lt_of_cell? w _ hw290_1)).trans hw290_1)), (World.cell?_alloc_lt _ _ _ (World.block_lt_of_cell? _ _ (((HB.out.cell (World.block_lt_of_cell? w _ hw290_2)).trans hw290_2)))).trans (((HB.out.cell (World.block_lt_of_cell? w _ hw290_2)).trans hw290_2)), (World.cell?_alloc_lt _ _ _ (World.block_lt_of_cell? _ _ (((HB.out.cell (World.block_lt_of_cell? w _ hw291_0)).trans hw291_0)))).trans (((HB.out.cell (World.block_lt_of_cell? w _ hw291_0)).trans hw291_0)), (World.cell?_alloc_lt _ _ _ (World.block_lt_of_cell? _ _ (((HB.out.cell (World.block_lt_of_cell? w _ hw291_1)).trans hw291_1)))).trans (((HB.out.cell (World.block_lt_of_cell? w _ hw291_1)).trans hw291_1)), (World.cell?_alloc_lt _ _ _ (World.block_lt_of_cell? _ _ (((HB.out.cell (World.block_lt_of_cell? w _ hw291_2)).trans hw291_2)))).trans (((HB.out.cell (World.block_lt_of_cell? w _ hw291_2)).trans hw291_2)), (World.cell?_alloc_lt _ _ _ (World.block_lt_of_cell? _ _ (((HB.out.cell (World.block_lt_of_cell? w _ hw292_0)).trans hw292_0)))).trans (((HB.out.cell (World.block_lt_of_cell? w _ hw292_0)).trans hw292_0)), (World.cell?_alloc_lt _ _ _ (World.block_lt_of_cell? _ _ (((HB.out.cell (World.block_lt_of_cell? w _ hw292_1)).trans hw292_1)))).trans (((HB.out.cell (World.block_lt_of_cell? w _ hw292_1)).trans hw292_1)), (World.cell?_alloc_lt _ _ _ (World.block_lt_of_cell? _ _ (((HB.out.cell (World.block_lt_of_cell? w _ hw292_2)).trans hw292_2)))).trans (((HB.out.cell (World.block_lt_of_cell? w _ hw292_2)).trans hw292_2))⟩ (fun hHeld => ?_)
   clear hK K
   refine norm_ (a' := ?_) ?_ ?_
   rotate_left
   ·show Act.put _ (some 28) _ = _
    simp only [Act.put, List.setIfInBounds_toArray, List.set_cons_zero, List.set_cons_succ, i64_w, i32_w]
    rfl
   refine one_ (i := 18) (N := some 29) #[true, true, true, true, true, true, true, true, true, true, true, true, true, true, true, true, true, true, true, false] rfl rfl (one_of HT_.out (by kernel_rfl)) (by decide) (fun K hK => ?_)
   refine Kd.R_append_step k32 (w0 := w) w.heap.size (by rfl) (.tmp 11) (.tmp 28) 29 32 (.agg #[(.bool false), (.int .i64 0), (.string ⟨#[]⟩)]) 32 rfl Tryz.underlying29 info32 rfl (by decide) (by omega) u3 x3_1 (⟨(rd_T34 l0 x4_1).f0, (rd_T34 l0 x4_1).f1, (rd_T34 l0 x4_1).f2⟩ : S32) [.bool ((rd_T34 l0 x4_1).f0), .int .i64 ((rd_T34 l0 x4_1).f1), .string ((rd_T34 l0 x4_1).f2)] (fun _ => True) (fun _ => False) rfl rfl ?aP (fun _ hk => hk.elim) ?aF ?aO ?aB ?aS ?aL ?_
   (case aP => exact k32_mkM _ _ _ (⟨(rd_T34 l0 x4_1).f0, (rd_T34 l0 x4_1).f1, (rd_T34 l0 x4_1).f2⟩ : S32))
   (case aB => exact bQ)
   (case aF => exact (fun _ _ => trivial))
   (case aO => exact (mQ HO_3))
   (case aS => exact (below_size bQ))
   (case aL => have := LMc4.out; omega)
   intro v294 w6 ho hb hg hat
   rw [← Ny293.out] at ho
   have n0_ := aM (hb)
   have n1_ := aM (ho)
   clear HB
   clear HO_3
   have HB := n0_
   have HO295 := n1_
   clear n0_ n1_
   clear ho hb hg hat
   refine hK.out _ _ ⟨((HB.out.cell (World.block_lt_of_cell? w _ hw290_0)).trans hw290_0), ((HB.out.cell (World.block_lt_of_cell? w _ hw290_1)).trans hw290_1), ((HB.out.cell (World.block_lt_of_cell? w _ hw290_2)).trans hw290_2), ((HB.out.cell (World.block_lt_of_cell? w _ hw291_0)).trans hw291_0), ((HB.out.cell (World.block_lt_of_cell? w _ hw291_1)).trans hw291_1), ((HB.out.cell (World.block_lt_of_cell? w _ hw291_2)).trans hw291_2), ((HB.out.cell (World.block_lt_of_cell? w _ hw292_0)).trans hw292_0), ((HB.out.cell (World.block_lt_of_cell? w _ hw292_1)).trans hw292_1), ((HB.out.cell (World.block_lt_of_cell? w _ hw292_2)).trans hw292_2)⟩ (fun hHeld => ?_)
   clear hK K
   refine norm_ (a' := ?_) ?_ ?_
   rotate_left
   ·show Act.put _ (some 29) _ = _
    simp only [Act.put, List.setIfInBounds_toArray, List.set_cons_zero, List.set_cons_succ, i64_w, i32_w]
    rfl
   refine pure_ (i := 19) (N := some 3) (v := ?_) (a' := ?_) #[true, true, true, true, true, true, true, true, true, true, true, true, true, true, true, true, true, true, true, true] rfl rfl (any_of HT_.out (by kernel_rfl)) (fun _ _ _ h => h) (Or.inl ⟨by rfl, ?_⟩) ?_ ?_
   rotate_left
   ·intro w'
    go_simp
    with_reducible rfl
   rotate_left
   ·simp only [Act.put, List.setIfInBounds_toArray, List.set_cons_zero, List.set_cons_succ, i64_w, i32_w]
    rfl
   refine done_ (done_of HT_.out (by kernel_rfl)) ?_
   try go_wp2
   go_roundg k1
   case measure => have := HK1.out; omega
   case rel => exact ⟨(y293), (wrap64 (x4_1 + 1)), vQ, H', ⟨by have := HK1.out; omega⟩, ⟨mQ HO295⟩, ⟨bQ⟩⟩
def hornbookref15_Same.l0 : Nat → List ByteArray → List ByteArray → Int → Option (Bool)
 | 0, _, _, _ => none
 | k + 1, x0, x1, x5 => if x5 < (x0.length : Int) then (if 0 ≤ x5 then (if x5 < (x1.length : Int) then (if (rdOf ByteArray.empty x0 x5).toList = (rdOf ByteArray.empty x1 x5).toList then (hornbookref15_Same.l0 k x0 x1 (wrap64 (x5 + 1))) else (some false)) else (none)) else (none)) else (some true)
def hornbookref15_Same.f (k : Nat) (l0 : List ByteArray) (l1 : List ByteArray) : Option (Bool) := if (l0.length : Int) = (l1.length : Int) then (hornbookref15_Same.l0 k l0 l1 0) else (some false)
set_option maxHeartbeats 8000000 in
set_option maxRecDepth 100000 in
theorem hornbookref15_Same.calls (k : Nat) (A0 : Option Addr) (c0 : Nat) (l0 : List ByteArray) (A1 : Option Addr) (c1 : Nat) (l1 : List ByteArray) (r : Bool) (w : World) (hr0 : Kd.C Kd.string w A0 l0.length l0) (hc0 : l0.length ≤ c0) (hr1 : Kd.C Kd.string w A1 l1.length l1) (hc1 : l1.length ≤ c1) (h : hornbookref15_Same.f k l0 l1 = some r) :
  Calls Tryz.prog 14 #[.slice A0 l0.length c0, .slice A1 l1.length c1] w fun e w' => e = .returned (.bool r) ∧ Drawn0 w w' := by
 have HR0 := aM hr0
 have HC0 := aM hc0
 clear hr0 hc0
 have HR1 := aM hr1
 have HC1 := aM hc1
 clear hr1 hc1
 have H : (if (l0.length : Int) = (l1.length : Int) then (hornbookref15_Same.l0 k l0 l1 0) else (some false)) = some r := h
 clear h
 refine iEc H ?_ ?_<;>clear H<;>intro H c3b0 c3b1 c3
 rotate_left
 ·have c3b2 : (l0.length == l1.length) = false := by first | simpa using c3 | (simp at c3 ⊢; omega)
  obtain rfl := Option.some.inj H
  go_enter Tryz.func14, Tryz.ntmps14
  go_wp2
  repeat (go_quiet (fail); try go_wp2)
  go_ret
  exact ⟨by first | rfl | (simp; done) | (simp [*]; done), by repeat (first | exact Drawn0.refl _ | apply Drawn0.step)⟩
 have c3b2 : (l0.length == l1.length) = true := by first | simpa using c3 | (simp at c3 ⊢; omega)
 clear c3
 have H' := aM H
 clear H
 go_enter Tryz.func14, Tryz.ntmps14
 go_wp2
 repeat (go_quiet (fail); try go_wp2)
 go_loopg [5] k (fun kq v5 w' => ∃ (x5_1 : Int), v5 = .int .i64 x5_1 ∧ Aside0 (hornbookref15_Same.l0 kq l0 l1 x5_1 = some r) ∧ Aside0 (kq ≤ k) ∧ Drawn0 w w')
 case atStart => exact ⟨(0), vQ, H', ⟨Nat.le_refl _⟩, by repeat (first | exact Drawn0.refl _ | apply Drawn0.step)⟩
 case round =>
  clear H'
  try clear c1
  try clear p2
  try clear c3
  try clear c3b0
  try clear c3b1
  try clear c3b2
  obtain ⟨x5_1, rfl, HA, HK1, ⟨m1, rfl⟩⟩ := hrel
  cases gk with
  | zero => exact absurd HA.out (by simp [hornbookref15_Same.l0])
  | succ k1 =>
   have H := HA.out
   clear HA
   simp only [hornbookref15_Same.l0] at H
   refine iD H ?_ ?_<;>clear H<;>intro H c4b0
   rotate_left
   ·obtain rfl := Option.some.inj H
    go_wp2
    repeat (go_quiet (fail); try go_wp2)
    go_ret
    exact ⟨by first | rfl | (simp; done) | (simp [*]; done), by repeat (first | exact Drawn0.refl _ | apply Drawn0.step)⟩
   refine iD H ?_ ?_<;>clear H<;>intro H c5b0
   rotate_left
   ·exact absurd H (by simp)
   refine iD H ?_ ?_<;>clear H<;>intro H c6b0
   rotate_left
   ·exact absurd H (by simp)
   refine iEc H ?_ ?_<;>clear H<;>intro H c7b0 c7b1 c7
   rotate_left
   ·obtain rfl := Option.some.inj H
    have p362 : 0 ≤ (x5_1 : Int) := of_decide_eq_true hQ
    have q362 : x5_1 < (l0.length : Int) := of_decide_eq_true hQ
    obtain ⟨ad362, e362, hx362_0⟩ := Kd.at_string HR0.out x5_1 p362 q362
    cases e362
    replace p362 := eq_true p362
    replace q362 := eq_true q362
    have p363 : 0 ≤ (x5_1 : Int) := of_decide_eq_true hQ
    have q363 : x5_1 < (l1.length : Int) := of_decide_eq_true hQ
    obtain ⟨ad363, e363, hx363_0⟩ := Kd.at_string HR1.out x5_1 p363 q363
    cases e363
    replace p363 := eq_true p363
    replace q363 := eq_true q363
    go_wp2
    repeat (go_quiet (fail); try go_wp2)
    go_ret
    exact ⟨by first | rfl | (simp; done) | (simp [*]; done), by repeat (first | exact Drawn0.refl _ | apply Drawn0.step)⟩
   clear c7
   have H' := aM H
   clear H
   have p362 : 0 ≤ (x5_1 : Int) := of_decide_eq_true hQ
   have q362 : x5_1 < (l0.length : Int) := of_decide_eq_true hQ
   obtain ⟨ad362, e362, hx362_0⟩ := Kd.at_string HR0.out x5_1 p362 q362
   cases e362
   replace p362 := eq_true p362
   replace q362 := eq_true q362
   have p363 : 0 ≤ (x5_1 : Int) := of_decide_eq_true hQ
   have q363 : x5_1 < (l1.length : Int) := of_decide_eq_true hQ
   obtain ⟨ad363, e363, hx363_0⟩ := Kd.at_string HR1.out x5_1 p363 q363
   cases e363
   replace p363 := eq_true p363
   replace q363 := eq_true q363
   go_wp2
   repeat (go_quiet (fail); try go_wp2)
   go_roundg k1
   case measure => have := HK1.out; omega
   case rel => exact ⟨(wrap64 (x5_1 + 1)), vQ, H', ⟨by have := HK1.out; omega⟩, by repeat (first | exact Drawn0.refl _ | apply Drawn0.step)⟩
def lex_place.f (a0 : ByteArray) (a1 : Int) : Option (Int) := some (mx 0 (mn a1 (a0.size : Int)))
set_option maxHeartbeats 8000000 in
set_option maxRecDepth 100000 in
theorem lex_place.calls (a0 : ByteArray) (a1 : Int) (r : Int) (w : World) (h : lex_place.f a0 a1 = some r) :
  Calls Tryz.prog 81 #[.string a0, .int .i64 a1] w fun e w' => e = .returned (.int .i64 r) ∧ Below w.heap.size w w' := by
 have HB := aM (Below.refl w.heap.size w)
 have H : (some (mx 0 (mn a1 (a0.size : Int)))) = some r := h
 clear h
 obtain ⟨ji3, hji3⟩ : ∃ j_ : Int, (mn a1 (a0.size : Int)) = j_ := ⟨_, rfl⟩
 replace H : (some (mx 0 (ji3))) = some r := by first | (rw [hji3] at H; exact H) | (simp only [hji3] at H ⊢; exact H)
 have hji3_ : (if (a0.size : Int) < a1 then (a0.size : Int) else a1) = ji3 := hji3
 obtain ⟨ji4, hji4⟩ : ∃ j_ : Int, (mx 0 (ji3)) = j_ := ⟨_, rfl⟩
 replace H : (some ji4) = some r := by first | (rw [hji4] at H; exact H) | (simp only [hji4] at H ⊢; exact H)
 have hji4_ : (if 0 < (ji3) then (ji3) else 0) = ji4 := hji4
 obtain rfl := Option.some.inj H
 go_enter Tryz.func81, Tryz.ntmps81
 go_wp2
 go_ret
 exact ⟨by first | rfl | (simp [errW_none, errW_some] <;> rfl) | (simp only [← hji3, ← hji4]; first | rfl | (simp [errW_none, errW_some] <;> rfl)) | (simp [*, errW_none, errW_some] <;> rfl), bQ⟩
end Go.Proofs.YtdcldaknmenklaaGreatDoor.M
end
section
namespace Go.Proofs.YtdcldaknmenklaaGreatDoor.M
open Go.RowKit Go.Proofs.YtdcldaknmenklaaGreatDoorW.PrintWords
def strings_IndexByte.f (a0 : ByteArray) (a1 : Int) : Option Int := some (Lib.indexByte a0.data.toList a1.toNat.toUInt8)
theorem strings_IndexByte.calls (a0 : ByteArray) (a1 : Int) (r : Int) (w : World) (h : strings_IndexByte.f a0 a1 = some r) :
  Calls Tryz.prog 82 #[.string a0, .int .u8 a1] w fun e w' => e = .returned (.int .i64 r) ∧ Drawn0 w w' := by
 obtain rfl := Option.some.inj h
 refine (Tryz.strings_IndexByte a0 a1 w).mono ?_
 rintro e w' ⟨rfl, rfl⟩
 exact ⟨rfl, Drawn0.refl _⟩
end Go.Proofs.YtdcldaknmenklaaGreatDoor.M
end
section
namespace Go.Proofs.YtdcldaknmenklaaGreatDoor.M
open Go.RowKit Go.Proofs.YtdcldaknmenklaaGreatDoorW.PrintWords
set_option linter.unusedVariables false
/-- The blanks. -/
def isWhite (c : Int) : Bool := c == 0 || c == 9 || c == 10 || c == 12 || c == 13 || c == 32
def hex_White.f (a0 : Int) : Option Bool := some (isWhite a0)
set_option maxRecDepth 100000 in
theorem hex_blanks.calls (w : World) :
  Calls Tryz.prog 134 #[] w fun e w' => e = .returned (.agg #[.int .i64 0, .int .i64 9, .int .i64 10, .int .i64 12, .int .i64 13, .int .i64 32]) ∧ Below w.heap.size w w' := by
 go_enter Tryz.func134, Tryz.ntmps134
 go_wp2
 exact bodyPost_ret (v := .agg #[.int .i64 0, .int .i64 9, .int .i64 10, .int .i64 12, .int .i64 13, .int .i64 32]) (by simp [results, Tryz.results134, go_sem]) rfl ⟨rfl, (Below.refl _ _).alloc (Nat.le_refl _) _⟩
theorem white_contains (a0 : Int) : (([0, 9, 10, 12, 13, 32] : List Int).take 6).contains a0 = isWhite a0 := by
 unfold isWhite
 simp only [List.take, List.contains_cons, List.contains_nil, Bool.or_false, Bool.or_assoc]
set_option maxHeartbeats 1000000 in
set_option maxRecDepth 100000 in
theorem hex_White.calls (a0 : Int) (r : Bool) (w : World) (h : hex_White.f a0 = some r) :
  Calls Tryz.prog 111 #[.int .i64 a0] w fun e w' => e = .returned (.bool r) ∧ Below w.heap.size w w' := by
 obtain rfl := Option.some.inj h
 clear h
 go_enter Tryz.func111, Tryz.ntmps111
 go_wp2_with (first
  | (go_at_call 134; refine (hex_blanks.calls _).mono ?_; rintro e w1 ⟨rfl, hb⟩)
  | (go_at_call 135; refine (Tryz.slices_Contains_int _ 0 6 6 [0, 9, 10, 12, 13, 32] a0 _ (by decide) (by decide) ?_).mono ?_))
 ·intro j hj
  match j, hj with
  | 0, _ | 1, _ | 2, _ | 3, _ | 4, _ | 5, _ => simp
 rintro e w2 ⟨rfl, rfl⟩
 rw [white_contains]
 go_wp2
 go_ret
 exact ⟨rfl, below_alloc hb _⟩
end Go.Proofs.YtdcldaknmenklaaGreatDoor.M
end
section
/- Laid by this session's program hbprint.py out of the translation: the function hornbook/lex.Class and its contract. -/
namespace Go.Proofs.YtdcldaknmenklaaGreatDoor.M
open Go.RowKit Go.Proofs.YtdcldaknmenklaaGreatDoorW.PrintWords Go.Proofs.YtdcldaknmenklaaGreatDoorW.PrintLast Go.Proofs.YtdcldaknmenklaaGreatDoorW.PrintMore
attribute [local go_sem] max2_int min2_int max_two min_two max_three min_three max_four min_four
set_option linter.unusedVariables false
set_option linter.unusedSimpArgs false
mutual
def lex_Class.j0 : Nat → Int → Int → Int → Bool → Option (Int)
 | 0, _, _, _, _ => none
 | k + 1, x0, x3, x4, x5 => if x5 = true then (some 2) else (if x4 = 123 then (lex_Class.j1 k x0 x3 (x4 == 123)) else (if x4 = 125 then (lex_Class.j1 k x0 x3 (x4 == 125)) else (if x4 = 47 then (lex_Class.j1 k x0 x3 (x4 == 47)) else (lex_Class.j1 k x0 x3 (x4 == 37)))))
def lex_Class.j1 : Nat → Int → Int → Bool → Option (Int)
 | 0, _, _, _ => none
 | k + 1, x0, x3, x12 => if x12 = true then (some 2) else ((hex_White.f x0).bind fun t171 => (if t171 = true then (some 1) else (some x3)))
end
def lex_Class.f (k : Nat) (a0 : Int) : Option (Int) := if a0 = 40 then (lex_Class.j0 k a0 0 a0 (a0 == 40)) else (if a0 = 41 then (lex_Class.j0 k a0 0 a0 (a0 == 41)) else (if a0 = 60 then (lex_Class.j0 k a0 0 a0 (a0 == 60)) else (if a0 = 62 then (lex_Class.j0 k a0 0 a0 (a0 == 62)) else (if a0 = 91 then (lex_Class.j0 k a0 0 a0 (a0 == 91)) else (lex_Class.j0 k a0 0 a0 (a0 == 93))))))
theorem lex_Class.mono_l : ∀ k, (∀ y0 y1 y2 y3, LeO (lex_Class.j0 k y0 y1 y2 y3) (lex_Class.j0 (k + 1) y0 y1 y2 y3)) ∧ (∀ y0 y1 y2, LeO (lex_Class.j1 k y0 y1 y2) (lex_Class.j1 (k + 1) y0 y1 y2))
 | 0 => ⟨fun _ _ _ _ r h => by simp [lex_Class.j0] at h, fun _ _ _ r h => by simp [lex_Class.j1] at h⟩
 | k + 1 => by
  obtain ⟨ih0, ih1⟩ := lex_Class.mono_l k
  refine ⟨?_, ?_⟩
  ·intro y0 y1 y2 y3
   unfold lex_Class.j0
   repeat' first
   | (with_reducible exact ih0 _ _ _ _)
   | (with_reducible exact ih1 _ _ _)
   | (with_reducible exact LeO.refl _)
   | (with_reducible exact LeO.none _)
   | (with_reducible refine LeO.ite ?_ ?_)
   | (with_reducible refine LeO.bind ?_ (fun _ => ?_))
   | exact ih0 _ _ _ _
   | exact ih1 _ _ _
   | exact LeO.none _
   | refine LeO.ite ?_ ?_
   | refine LeO.bind ?_ (fun _ => ?_)
  ·intro y0 y1 y2
   unfold lex_Class.j1
   repeat' first
   | (with_reducible exact ih0 _ _ _ _)
   | (with_reducible exact ih1 _ _ _)
   | (with_reducible exact LeO.refl _)
   | (with_reducible exact LeO.none _)
   | (with_reducible refine LeO.ite ?_ ?_)
   | (with_reducible refine LeO.bind ?_ (fun _ => ?_))
   | exact ih0 _ _ _ _
   | exact ih1 _ _ _
   | exact LeO.none _
   | refine LeO.ite ?_ ?_
   | refine LeO.bind ?_ (fun _ => ?_)
theorem lex_Class.mono : ∀ a0 k, LeO (lex_Class.f k a0) (lex_Class.f (k + 1) a0) := by
 intro a0 k
 obtain ⟨ih0, ih1⟩ := lex_Class.mono_l k
 unfold lex_Class.f
 repeat' first
   | (with_reducible exact ih0 _ _ _ _)
   | (with_reducible exact ih1 _ _ _)
   | (with_reducible exact LeO.refl _)
   | (with_reducible exact LeO.none _)
   | (with_reducible refine LeO.ite ?_ ?_)
   | (with_reducible refine LeO.bind ?_ (fun _ => ?_))
   | exact ih0 _ _ _ _
   | exact ih1 _ _ _
   | exact LeO.none _
   | refine LeO.ite ?_ ?_
   | refine LeO.bind ?_ (fun _ => ?_)
set_option maxHeartbeats 8000000 in
set_option maxRecDepth 100000 in
theorem lex_Class.calls (k : Nat) (a0 : Int) (r : Int) (w : World) (h : lex_Class.f k a0 = some r) :
  Calls Tryz.prog 83 #[.int .i64 a0] w fun e w' => e = .returned (.int .i64 r) ∧ Below w.heap.size w w' := by
 have HB := aM (Below.refl w.heap.size w)
 have H : (if a0 = 40 then (lex_Class.j0 k a0 0 a0 (a0 == 40)) else (if a0 = 41 then (lex_Class.j0 k a0 0 a0 (a0 == 41)) else (if a0 = 60 then (lex_Class.j0 k a0 0 a0 (a0 == 60)) else (if a0 = 62 then (lex_Class.j0 k a0 0 a0 (a0 == 62)) else (if a0 = 91 then (lex_Class.j0 k a0 0 a0 (a0 == 91)) else (lex_Class.j0 k a0 0 a0 (a0 == 93))))))) = some r := h
 clear h
 have HC2 := aM H
 clear H
 go_enter Tryz.func83, Tryz.ntmps83
 go_upto_if 5 with (fail)
 go_cut [5] (fun v5 wc => ∃ (kq : Nat) (x5_1 : Bool), v5 = .bool x5_1 ∧ Aside0 (lex_Class.j0 kq a0 0 a0 x5_1 = some r) ∧ Aside0 (kq ≤ k) ∧ Aside0 (Below w.heap.size w wc))
 case first =>
  have H := HC2.out
  clear HC2
  refine iEc H ?_ ?_<;>clear H<;>intro H c3b0 c3b1 c3
  ·clear c3
   (first | rw [c3b0] | (simp only [i64_w, i32_w]; rw [c3b0]) | skip)
   have H' := aM H
   clear H
   go_wp2
   go_meet
   case rel => exact ⟨_, ((a0 == 40)), vQ, H', ⟨by first | omega | exact Nat.le_refl _⟩, ⟨bQ⟩⟩
  (first | rw [c3b0] | (simp only [i64_w, i32_w]; rw [c3b0]) | skip)
  refine iEc H ?_ ?_<;>clear H<;>intro H c4b0 c4b1 c4
  ·clear c4
   have H' := aM H
   clear H
   go_wp2
   go_meet
   case rel => exact ⟨_, ((a0 == 41)), vQ, H', ⟨by first | omega | exact Nat.le_refl _⟩, ⟨bQ⟩⟩
  refine iEc H ?_ ?_<;>clear H<;>intro H c5b0 c5b1 c5
  ·clear c5
   have H' := aM H
   clear H
   go_wp2
   go_meet
   case rel => exact ⟨_, ((a0 == 60)), vQ, H', ⟨by first | omega | exact Nat.le_refl _⟩, ⟨bQ⟩⟩
  refine iEc H ?_ ?_<;>clear H<;>intro H c6b0 c6b1 c6
  ·clear c6
   have H' := aM H
   clear H
   go_wp2
   go_meet
   case rel => exact ⟨_, ((a0 == 62)), vQ, H', ⟨by first | omega | exact Nat.le_refl _⟩, ⟨bQ⟩⟩
  refine iEc H ?_ ?_<;>clear H<;>intro H c7b0 c7b1 c7
  rotate_left
  ·have H' := aM H
   clear H
   go_wp2
   go_meet
   case rel => exact ⟨_, ((a0 == 93)), vQ, H', ⟨by first | omega | exact Nat.le_refl _⟩, ⟨bQ⟩⟩
  clear c7
  have H' := aM H
  clear H
  go_wp2
  go_meet
  case rel => exact ⟨_, ((a0 == 91)), vQ, H', ⟨by first | omega | exact Nat.le_refl _⟩, ⟨bQ⟩⟩
 case rest =>
  clear HC2
  try clear p2
  try clear c3
  try clear c3b0
  try clear c3b1
  try clear c4
  try clear c4b0
  try clear c4b1
  try clear c5
  try clear c5b0
  try clear c5b1
  try clear c6
  try clear c6b0
  try clear c6b1
  try clear c7
  try clear c7b0
  try clear c7b1
  obtain ⟨kq, x5_1, rfl, HA, HJ1, HB⟩ := hcut
  cases kq with
  | zero => exact absurd HA.out (by simp [lex_Class.j0])
  | succ kj1 =>
   have H := HA.out
   clear HA
   simp only [lex_Class.j0] at H
   by_cases c8 : x5_1 = true
   ·subst c8
    rw [if_pos rfl] at H
    obtain rfl := Option.some.inj H
    go_wp2
    go_ret
    exact ⟨eQ, bQ⟩
   replace c8 := Bool.eq_false_iff.mpr c8
   subst c8
   rw [if_neg (show ¬ (false = true) by decide)] at H
   have HC9 := aM H
   clear H
   go_upto_if 12 with (fail)
   go_cut [12] (fun v12 wc => ∃ (kq : Nat) (x12_8 : Bool), v12 = .bool x12_8 ∧ Aside0 (lex_Class.j1 kq a0 0 x12_8 = some r) ∧ Aside0 (kq ≤ kj1) ∧ Aside0 (Below w.heap.size w wc))
   case first =>
    have H := HC9.out
    clear HC9
    refine iEc H ?_ ?_<;>clear H<;>intro H c10b0 c10b1 c10
    ·clear c10
     (first | rw [c10b0] | (simp only [i64_w, i32_w]; rw [c10b0]) | skip)
     have H' := aM H
     clear H
     go_wp2
     go_meet
     case rel => exact ⟨_, ((a0 == 123)), vQ, H', ⟨by have := HJ1.out; first | omega | exact Nat.le_refl _⟩, ⟨bQ⟩⟩
    (first | rw [c10b0] | (simp only [i64_w, i32_w]; rw [c10b0]) | skip)
    refine iEc H ?_ ?_<;>clear H<;>intro H c11b0 c11b1 c11
    ·clear c11
     have H' := aM H
     clear H
     go_wp2
     go_meet
     case rel => exact ⟨_, ((a0 == 125)), vQ, H', ⟨by have := HJ1.out; first | omega | exact Nat.le_refl _⟩, ⟨bQ⟩⟩
    refine iEc H ?_ ?_<;>clear H<;>intro H c12b0 c12b1 c12
    rotate_left
    ·have H' := aM H
     clear H
     go_wp2
     go_meet
     case rel => exact ⟨_, ((a0 == 37)), vQ, H', ⟨by have := HJ1.out; first | omega | exact Nat.le_refl _⟩, ⟨bQ⟩⟩
    clear c12
    have H' := aM H
    clear H
    go_wp2
    go_meet
    case rel => exact ⟨_, ((a0 == 47)), vQ, H', ⟨by have := HJ1.out; first | omega | exact Nat.le_refl _⟩, ⟨bQ⟩⟩
   case rest =>
    clear HC9
    try clear c1
    try clear p2
    try clear c3
    try clear c3b0
    try clear c3b1
    try clear c4
    try clear c4b0
    try clear c4b1
    try clear c5
    try clear c5b0
    try clear c5b1
    try clear c6
    try clear c6b0
    try clear c6b1
    try clear c7
    try clear c7b0
    try clear c7b1
    try clear c8
    try clear c10
    try clear c10b0
    try clear c10b1
    try clear c11
    try clear c11b0
    try clear c11b1
    try clear c12
    try clear c12b0
    try clear c12b1
    try clear p2
    obtain ⟨kq, x12_8, rfl, HA, HJ8, HB⟩ := hcut
    cases kq with
    | zero => exact absurd HA.out (by simp [lex_Class.j1])
    | succ kj8 =>
     have H := HA.out
     clear HA
     simp only [lex_Class.j1] at H
     by_cases c13 : x12_8 = true
     ·subst c13
      rw [if_pos rfl] at H
      obtain rfl := Option.some.inj H
      go_wp2
      go_ret
      exact ⟨eQ, bQ⟩
     replace c13 := Bool.eq_false_iff.mpr c13
     subst c13
     rw [if_neg (show ¬ (false = true) by decide)] at H
     replace H := bS H
     obtain ⟨t171, A14, H⟩ := H
     try dsimp only at H
     by_cases c15 : t171 = true
     ·subst c15
      rw [if_pos rfl] at H
      obtain rfl := Option.some.inj H
      go_wp2_with (first | ((with_reducible refine gC 111 ?_); refine gL (some 18) Tryz.func111 #[.int .i64 a0] ?_; (with_reducible refine cB (hex_White.calls a0 true _ A14.out) ?_); intro w16 hb; replace HB := sB hb; clear hb))
      go_ret
      exact ⟨eQ, bQ⟩
     replace c15 := Bool.eq_false_iff.mpr c15
     subst c15
     rw [if_neg (show ¬ (false = true) by decide)] at H
     obtain rfl := Option.some.inj H
     go_wp2_with (first | ((with_reducible refine gC 111 ?_); refine gL (some 18) Tryz.func111 #[.int .i64 a0] ?_; (with_reducible refine cB (hex_White.calls a0 false _ A14.out) ?_); intro w17 hb; replace HB := sB hb; clear hb))
     go_ret
     exact ⟨eQ, bQ⟩
end Go.Proofs.YtdcldaknmenklaaGreatDoor.M
end
section
/- Laid by this session's program hbprint.py out of the translation: the function hornbook/lex.Skip and its contract. -/
namespace Go.Proofs.YtdcldaknmenklaaGreatDoor.M
open Go.RowKit Go.Proofs.YtdcldaknmenklaaGreatDoorW.PrintWords Go.Proofs.YtdcldaknmenklaaGreatDoorW.PrintLast Go.Proofs.YtdcldaknmenklaaGreatDoorW.PrintMore
attribute [local go_sem] max2_int min2_int max_two min_two max_three min_three max_four min_four
set_option linter.unusedVariables false
set_option linter.unusedSimpArgs false
mutual
def lex_Skip.l0 : Nat → ByteArray → Int → Option (Int)
 | 0, _, _ => none
 | k + 1, x0, x5 => if x5 < (x0.size : Int) then (if 0 ≤ x5 then (if (bt x0 x5) = 37 then (if x5 ≤ (x0.size : Int) then ((strings_IndexByte.f (x0.extract (x5 : Int).toNat x0.size) 10).bind fun t173 => ((strings_IndexByte.f (x0.extract (x5 : Int).toNat x0.size) 13).bind fun t174 => (if t174 ≥ 0 then (if t173 < 0 then (lex_Skip.j1 k x0 x5 t173 t174 true) else (lex_Skip.j1 k x0 x5 t173 t174 (decide (t174 < t173)))) else (lex_Skip.j1 k x0 x5 t173 t174 false)))) else (none)) else ((lex_Class.f k (wrap64 (bt x0 x5))).bind fun t175 => (if t175 = 1 then (lex_Skip.l0 k x0 (wrap64 (x5 + 1))) else (some x5)))) else (none)) else (some x5)
def lex_Skip.j1 : Nat → ByteArray → Int → Int → Int → Bool → Option (Int)
 | 0, _, _, _, _, _ => none
 | k + 1, x0, x5, x6, x7, x38 => if x38 = true then (if x7 < 0 then (some (x0.size : Int)) else (lex_Skip.l0 k x0 (wrap64 ((wrap64 (x5 + x7)) + 1)))) else (if x6 < 0 then (some (x0.size : Int)) else (lex_Skip.l0 k x0 (wrap64 ((wrap64 (x5 + x6)) + 1))))
end
def lex_Skip.f (k : Nat) (a0 : ByteArray) (a1 : Int) : Option (Int) := (lex_place.f a0 a1).bind fun t172 => (lex_Skip.l0 k a0 t172)
theorem lex_Skip.mono_l : ∀ k, (∀ y0 y1, LeO (lex_Skip.l0 k y0 y1) (lex_Skip.l0 (k + 1) y0 y1)) ∧ (∀ y0 y1 y2 y3 y4, LeO (lex_Skip.j1 k y0 y1 y2 y3 y4) (lex_Skip.j1 (k + 1) y0 y1 y2 y3 y4))
 | 0 => ⟨fun _ _ r h => by simp [lex_Skip.l0] at h, fun _ _ _ _ _ r h => by simp [lex_Skip.j1] at h⟩
 | k + 1 => by
  obtain ⟨ih0, ih1⟩ := lex_Skip.mono_l k
  refine ⟨?_, ?_⟩
  ·intro y0 y1
   unfold lex_Skip.l0
   repeat' first
   | (with_reducible exact ih0 _ _)
   | (with_reducible exact ih1 _ _ _ _ _)
   | (with_reducible exact lex_Class.mono _ _)
   | (with_reducible exact LeO.refl _)
   | (with_reducible exact LeO.none _)
   | (with_reducible refine LeO.ite ?_ ?_)
   | (with_reducible refine LeO.bind ?_ (fun _ => ?_))
   | exact ih0 _ _
   | exact ih1 _ _ _ _ _
   | exact lex_Class.mono _ _
   | exact LeO.none _
   | refine LeO.ite ?_ ?_
   | refine LeO.bind ?_ (fun _ => ?_)
  ·intro y0 y1 y2 y3 y4
   unfold lex_Skip.j1
   repeat' first
   | (with_reducible exact ih0 _ _)
   | (with_reducible exact ih1 _ _ _ _ _)
   | (with_reducible exact lex_Class.mono _ _)
   | (with_reducible exact LeO.refl _)
   | (with_reducible exact LeO.none _)
   | (with_reducible refine LeO.ite ?_ ?_)
   | (with_reducible refine LeO.bind ?_ (fun _ => ?_))
   | exact ih0 _ _
   | exact ih1 _ _ _ _ _
   | exact lex_Class.mono _ _
   | exact LeO.none _
   | refine LeO.ite ?_ ?_
   | refine LeO.bind ?_ (fun _ => ?_)
theorem lex_Skip.mono : ∀ a0 a1 k, LeO (lex_Skip.f k a0 a1) (lex_Skip.f (k + 1) a0 a1) := by
 intro a0 a1 k
 obtain ⟨ih0, ih1⟩ := lex_Skip.mono_l k
 unfold lex_Skip.f
 repeat' first
   | (with_reducible exact ih0 _ _)
   | (with_reducible exact ih1 _ _ _ _ _)
   | (with_reducible exact lex_Class.mono _ _)
   | (with_reducible exact LeO.refl _)
   | (with_reducible exact LeO.none _)
   | (with_reducible refine LeO.ite ?_ ?_)
   | (with_reducible refine LeO.bind ?_ (fun _ => ?_))
   | exact ih0 _ _
   | exact ih1 _ _ _ _ _
   | exact lex_Class.mono _ _
   | exact LeO.none _
   | refine LeO.ite ?_ ?_
   | refine LeO.bind ?_ (fun _ => ?_)
set_option maxHeartbeats 8000000 in
set_option maxRecDepth 100000 in
theorem lex_Skip.calls (k : Nat) (a0 : ByteArray) (a1 : Int) (r : Int) (w : World) (h : lex_Skip.f k a0 a1 = some r) :
  Calls Tryz.prog 50 #[.string a0, .int .i64 a1] w fun e w' => e = .returned (.int .i64 r) ∧ Below w.heap.size w w' := by
 have HB := aM (Below.refl w.heap.size w)
 have H : ((lex_place.f a0 a1).bind fun t172 => (lex_Skip.l0 k a0 t172)) = some r := h
 clear h
 replace H := bS H
 obtain ⟨t172, A3, H⟩ := H
 try dsimp only at H
 have H' := aM H
 clear H
 go_enter Tryz.func50, Tryz.ntmps50
 go_wp2_with (first | ((with_reducible refine gC 81 ?_); refine gL (some 10) Tryz.func81 #[.string a0, .int .i64 a1] ?_; (with_reducible refine cB (lex_place.calls a0 a1 t172 _ A3.out) ?_); intro w4 hb; replace HB := sB hb; clear hb))
 go_loopg [5] k (fun kq v5 w' => ∃ (x5_1 : Int), v5 = .int .i64 x5_1 ∧ Aside0 (lex_Skip.l0 kq a0 x5_1 = some r) ∧ Aside0 (kq ≤ k) ∧ Aside0 (Below w.heap.size w w'))
 case atStart => exact ⟨(t172), vQ, H', ⟨Nat.le_refl _⟩, ⟨bQ⟩⟩
 case round =>
  clear H'
  try clear p2
  obtain ⟨x5_1, rfl, HA, HK1, HB⟩ := hrel
  cases gk with
  | zero => exact absurd HA.out (by simp [lex_Skip.l0])
  | succ k1 =>
   have H := HA.out
   clear HA
   simp only [lex_Skip.l0] at H
   refine iD H ?_ ?_<;>clear H<;>intro H c5b0
   rotate_left
   ·obtain rfl := Option.some.inj H
    go_wp2
    go_ret
    exact ⟨eQ, bQ⟩
   refine iD H ?_ ?_<;>clear H<;>intro H c6b0
   rotate_left
   ·exact absurd H (by simp)
   refine iEc H ?_ ?_<;>clear H<;>intro H c8b0 c8b1 c8
   rotate_left
   ·replace H := bS H
    obtain ⟨t175, A22, H⟩ := H
    try dsimp only at H
    refine iEc H ?_ ?_<;>clear H<;>intro H c23b0 c23b1 c23
    rotate_left
    ·obtain rfl := Option.some.inj H
     have p7 : 0 ≤ (x5_1 : Int) := of_decide_eq_true hQ
     have q7 : x5_1 < (a0.size : Int) := of_decide_eq_true hQ
     have hx7 := bt_at a0 x5_1
     replace p7 := eq_true p7
     replace q7 := eq_true q7
     have p21 : 0 ≤ (x5_1 : Int) := of_decide_eq_true hQ
     have q21 : x5_1 < (a0.size : Int) := of_decide_eq_true hQ
     have hx21 := bt_at a0 x5_1
     replace p21 := eq_true p21
     replace q21 := eq_true q21
     go_wp2_with (first | ((with_reducible refine gC 83 ?_); refine gL (some 52) Tryz.func83 #[.int .i64 (wrap64 (bt a0 x5_1))] ?_; (with_reducible refine cB (lex_Class.calls k1 (wrap64 (bt a0 x5_1)) t175 _ A22.out) ?_); intro w25 hb; replace HB := sB hb; clear hb))
     go_ret
     exact ⟨eQ, bQ⟩
    clear c23
    have H' := aM H
    clear H
    have p7 : 0 ≤ (x5_1 : Int) := of_decide_eq_true hQ
    have q7 : x5_1 < (a0.size : Int) := of_decide_eq_true hQ
    have hx7 := bt_at a0 x5_1
    replace p7 := eq_true p7
    replace q7 := eq_true q7
    have p21 : 0 ≤ (x5_1 : Int) := of_decide_eq_true hQ
    have q21 : x5_1 < (a0.size : Int) := of_decide_eq_true hQ
    have hx21 := bt_at a0 x5_1
    replace p21 := eq_true p21
    replace q21 := eq_true q21
    go_wp2_with (first | ((with_reducible refine gC 83 ?_); refine gL (some 52) Tryz.func83 #[.int .i64 (wrap64 (bt a0 x5_1))] ?_; (with_reducible refine cB (lex_Class.calls k1 (wrap64 (bt a0 x5_1)) t175 _ A22.out) ?_); intro w24 hb; replace HB := sB hb; clear hb))
    go_roundg k1
    case measure => have := HK1.out; omega
    case rel => exact ⟨(wrap64 (x5_1 + 1)), vQ, H', ⟨by have := HK1.out; omega⟩, ⟨bQ⟩⟩
   clear c8
   have c9b0 := eq_true (of_decide_eq_true hQ : 0 ≤ x5_1)
   refine iNc H ?_ ?_<;>clear H<;>intro H c10
   rotate_left
   ·exact absurd H (by simp)
   have c10b0 := eq_true c10
   have c10b1 : decide (x5_1 ≤ (a0.size : Int)) = true := decide_eq_true c10
   clear c10
   replace H := bS H
   obtain ⟨t173, A11, H⟩ := H
   try dsimp only at H
   have c12b0 := eq_true (of_decide_eq_true hQ : 0 ≤ x5_1)
   have c13b0 := eq_true (of_decide_eq_true hQ : x5_1 ≤ (a0.size : Int))
   replace H := bS H
   obtain ⟨t174, A14, H⟩ := H
   try dsimp only at H
   have HC15 := aM H
   clear H
   have p7 : 0 ≤ (x5_1 : Int) := of_decide_eq_true hQ
   have q7 : x5_1 < (a0.size : Int) := of_decide_eq_true hQ
   have hx7 := bt_at a0 x5_1
   replace p7 := eq_true p7
   replace q7 := eq_true q7
   go_upto_region 6 with (first | ((with_reducible refine gC 82 ?_); refine gL (some 23) Tryz.func82 #[.string (a0.extract (x5_1 : Int).toNat a0.size), .int .u8 10] ?_; (with_reducible refine (strings_IndexByte.calls (a0.extract (x5_1 : Int).toNat a0.size) 10 t173 _ A11.out).mono ?_); rintro e w' ⟨rfl, ⟨nd, rfl⟩⟩; refine ⟨_, rfl, ?_⟩) | ((with_reducible refine gC 82 ?_); refine gL (some 27) Tryz.func82 #[.string (a0.extract (x5_1 : Int).toNat a0.size), .int .u8 13] ?_; (with_reducible refine (strings_IndexByte.calls (a0.extract (x5_1 : Int).toNat a0.size) 13 t174 _ A14.out).mono ?_); rintro e w' ⟨rfl, ⟨nd, rfl⟩⟩; refine ⟨_, rfl, ?_⟩))
   (try simp only [Act.put, List.setIfInBounds_toArray, List.set_cons_zero, List.set_cons_succ])
   go_cut [38] (fun v38 wc => ∃ (kq : Nat) (x38_14 : Bool), v38 = .bool x38_14 ∧ Aside0 (lex_Skip.j1 kq a0 x5_1 t173 t174 x38_14 = some r) ∧ Aside0 (kq ≤ k1) ∧ Aside0 (Below w.heap.size w wc))
   case first =>
    have H := HC15.out
    clear HC15
    refine iNc H ?_ ?_<;>clear H<;>intro H c16
    rotate_left
    ·have c16b0 : decide (0 ≤ t174) = false := decide_eq_false c16
     clear c16
     (first | rw [c16b0] | (simp only [i64_w, i32_w]; rw [c16b0]) | skip)
     have H' := aM H
     clear H
     go_wp2
     go_meet
     case rel => exact ⟨_, (false), vQ, H', ⟨by have := HK1.out; first | omega | exact Nat.le_refl _⟩, ⟨bQ⟩⟩
    have c16b0 : decide (0 ≤ t174) = true := decide_eq_true c16
    clear c16
    (first | rw [c16b0] | (simp only [i64_w, i32_w]; rw [c16b0]) | skip)
    refine iD H ?_ ?_<;>clear H<;>intro H c17b0
    ·have H' := aM H
     clear H
     go_wp2
     go_meet
     case rel => exact ⟨_, (true), vQ, H', ⟨by have := HK1.out; first | omega | exact Nat.le_refl _⟩, ⟨bQ⟩⟩
    have H' := aM H
    clear H
    go_wp2
    go_meet
    case rel => exact ⟨_, (decide (t174 < t173)), vQ, H', ⟨by have := HK1.out; first | omega | exact Nat.le_refl _⟩, ⟨bQ⟩⟩
   case rest =>
    clear HC15
    try clear c1
    try clear p2
    try clear c5
    try clear c5b0
    try clear c6
    try clear c6b0
    try clear p7
    try clear q7
    try clear hx7
    try clear c8
    try clear c8b0
    try clear c8b1
    try clear c9
    try clear c9b0
    try clear c10
    try clear c10b0
    try clear c10b1
    try clear c12
    try clear c12b0
    try clear c13
    try clear c13b0
    try clear c16
    try clear c16b0
    try clear c17
    try clear c17b0
    try clear p2
    try clear p7
    try clear q7
    obtain ⟨kq, x38_14, rfl, HA, HJ14, HB⟩ := hcut
    cases kq with
    | zero => exact absurd HA.out (by simp [lex_Skip.j1])
    | succ kj14 =>
     have H := HA.out
     clear HA
     simp only [lex_Skip.j1] at H
     by_cases c18 : x38_14 = true
     ·subst c18
      rw [if_pos rfl] at H
      refine iD H ?_ ?_<;>clear H<;>intro H c19b0
      ·obtain rfl := Option.some.inj H
       go_wp2
       go_ret
       exact ⟨eQ, bQ⟩
      have H' := aM H
      clear H
      go_wp2
      go_roundg kj14
      case measure => have := HK1.out; have := HJ14.out; omega
      case rel => exact ⟨(wrap64 ((wrap64 (x5_1 + t174)) + 1)), vQ, H', ⟨by have := HK1.out; have := HJ14.out; omega⟩, ⟨bQ⟩⟩
     replace c18 := Bool.eq_false_iff.mpr c18
     subst c18
     rw [if_neg (show ¬ (false = true) by decide)] at H
     refine iD H ?_ ?_<;>clear H<;>intro H c20b0
     ·obtain rfl := Option.some.inj H
      go_wp2
      go_ret
      exact ⟨eQ, bQ⟩
     have H' := aM H
     clear H
     go_wp2
     go_roundg kj14
     case measure => have := HK1.out; have := HJ14.out; omega
     case rel => exact ⟨(wrap64 ((wrap64 (x5_1 + t173)) + 1)), vQ, H', ⟨by have := HK1.out; have := HJ14.out; omega⟩, ⟨bQ⟩⟩
end Go.Proofs.YtdcldaknmenklaaGreatDoor.M
end
section
namespace Go.Proofs.YtdcldaknmenklaaGreatDoor.M
open Go.RowKit Go.Maps Go.Proofs.YtdcldaknmenklaaGreatDoorW.PrintWords
set_option linter.unusedVariables false
set_option linter.unusedSimpArgs false
theorem key3 : Keyed Tryz.prog 3 := int_keyed Tryz.underlying3
def signRow (x : Int) (s : List UInt8) : Lit × DataW Unit := (.int .i64 x, .lit (.string s))
def signMap : DataW Unit := .map [signRow 6 [91], signRow 7 [93], signRow 8 [60, 60], signRow 9 [62, 62], signRow 10 [123], signRow 11 [125]]
theorem signMap_eq : ((((((DataW.map ([] : List (Lit × DataW Unit))).put (.int .i64 6) (.lit (.string [91]))).put (.int .i64 7) (.lit (.string [93]))).put (.int .i64 8) (.lit (.string [60, 60]))).put (.int .i64 9) (.lit (.string [62, 62]))).put (.int .i64 10) (.lit (.string [123]))).put (.int .i64 11) (.lit (.string [125])) = signMap := by kernel_rfl
set_option maxHeartbeats 1000000 in
set_option maxRecDepth 100000 in
theorem signs_calls (w : World) : Calls Tryz.prog 84 #[] w fun e w' => ∃ b, e = .returned (.map (some b)) ∧ w.heap.size ≤ b ∧ w'.ownsMap (H := Unit) Tryz.prog 3 (plainElem Tryz.prog 9) b 6 signMap ∧ Below w.heap.size w w' := by
 have hmm := @run_makeMap Tryz.prog
 have o0 := World.ownsMap_made (H := Unit) w Tryz.prog 3 (plainElem Tryz.prog 9)
 obtain ⟨w1, r1, o1, g1⟩ := o0.update key3 Tryz.underlying106 (by decide) (keyOf_int_mk Tryz.underlying3 (a := 6) (q := .i64) (by decide)) (plainElem_string (H := Unit) Tryz.underlying9 (s := ⟨#[91]⟩) (by decide))
 obtain ⟨w2, r2, o2, g2⟩ := o1.update key3 Tryz.underlying106 (by decide) (keyOf_int_mk Tryz.underlying3 (a := 7) (q := .i64) (by decide)) (plainElem_string (H := Unit) Tryz.underlying9 (s := ⟨#[93]⟩) (by decide))
 obtain ⟨w3, r3, o3, g3⟩ := o2.update key3 Tryz.underlying106 (by decide) (keyOf_int_mk Tryz.underlying3 (a := 8) (q := .i64) (by decide)) (plainElem_string (H := Unit) Tryz.underlying9 (s := ⟨#[60, 60]⟩) (by decide))
 obtain ⟨w4, r4, o4, g4⟩ := o3.update key3 Tryz.underlying106 (by decide) (keyOf_int_mk Tryz.underlying3 (a := 9) (q := .i64) (by decide)) (plainElem_string (H := Unit) Tryz.underlying9 (s := ⟨#[62, 62]⟩) (by decide))
 obtain ⟨w5, r5, o5, g5⟩ := o4.update key3 Tryz.underlying106 (by decide) (keyOf_int_mk Tryz.underlying3 (a := 10) (q := .i64) (by decide)) (plainElem_string (H := Unit) Tryz.underlying9 (s := ⟨#[123]⟩) (by decide))
 obtain ⟨w6, r6, o6, g6⟩ := o5.update key3 Tryz.underlying106 (by decide) (keyOf_int_mk Tryz.underlying3 (a := 11) (q := .i64) (by decide)) (plainElem_string (H := Unit) Tryz.underlying9 (s := ⟨#[125]⟩) (by decide))
 have e := signMap_eq
 have HO : Aside0 (w6.ownsMap (H := Unit) Tryz.prog 3 (plainElem Tryz.prog 9) w.heap.size 6 signMap) := ⟨by rw [← e]; exact o6⟩
 have b0 : Below w.heap.size w (w.alloc (.map #[] 0)) := below_alloc (Below.refl _ w) _
 have hb : ∀ {A B : World}, Below w.heap.size w A → A.grownBy B (some w.heap.size) → Below w.heap.size w B := fun h g => h.grown g h.size (fun k e => by cases e; exact Nat.le_refl _)
 have HB : Aside0 (Below w.heap.size w w6) := ⟨hb (hb (hb (hb (hb (hb b0 g1) g2) g3) g4) g5) g6⟩
 clear e o0 o1 o2 o3 o4 o5 o6 g1 g2 g3 g4 g5 g6 b0 hb
 go_enter Tryz.func84, Tryz.ntmps84
 go_wp2
 go_ret
 exact ⟨_, rfl, Nat.le_refl _, HO.out, HB.out⟩
end Go.Proofs.YtdcldaknmenklaaGreatDoor.M
end
section
namespace Go.Proofs.YtdcldaknmenklaaGreatDoor.M
open Go.RowKit Go.Proofs.YtdcldaknmenklaaGreatDoorW.PrintWords
set_option linter.unusedVariables false
theorem le_rounds {α : Type} {g : Nat → Option α} (hm : ∀ k, LeO (g k) (g (k + 1))) {k : Nat} {r : α} (h : g k = some r) : ∀ {m : Nat}, k ≤ m → g m = some r := by
 intro m hk
 induction m with
 | zero =>
  obtain rfl : k = 0 := by omega
  exact h
 | succ m ih =>
  by_cases e : k = m + 1
  ·subst e; exact h
  ·exact hm m r (ih (by omega))
theorem ba_eta (a : ByteArray) : a = ⟨a.data.toList.toArray⟩ := by cases a; rfl
theorem toList_data (a : ByteArray) : a.toList = a.data.toList := ByteArray.toList_eq a
theorem ext_from (a : ByteArray) (i : Nat) : a.extract i a.size = ⟨(a.data.toList.drop i).toArray⟩ := by
 rw [ba_eta (a.extract i a.size), Lib.extract_to_end]
theorem bt_get (a : ByteArray) (i : Nat) (h : i < a.size) : bt a (i : Int) = (a.data.toList[i]'(by simpa using h)).toNat := by
 unfold bt
 simp only [Int.toNat_natCast, h, dif_pos]
 rfl
theorem ba_size (l : List UInt8) : (⟨l.toArray⟩ : ByteArray).size = l.length := by show l.toArray.size = _; simp
theorem ba_list (l : List UInt8) : (⟨l.toArray⟩ : ByteArray).data.toList = l := by simp
theorem ba_toList (l : List UInt8) : (⟨l.toArray⟩ : ByteArray).toList = l := by rw [toList_data, ba_list]
theorem size_list (s : ByteArray) : s.size = s.data.toList.length := rfl
theorem ext_mid (s : ByteArray) (i j : Nat) : s.extract i j = ⟨((s.data.toList.drop i).take (j - i)).toArray⟩ := by
 rw [ba_eta (s.extract i j), Lib.extract_data]
theorem wrap_small {x : Int} (h0 : 0 ≤ x) (h1 : x < 9223372036854775808) : wrap64 x = x := by unfold wrap64; omega
end Go.Proofs.YtdcldaknmenklaaGreatDoor.M
end
section
namespace Go.Proofs.YtdcldaknmenklaaGreatDoor.M
open Go.RowKit Go.Proofs.YtdcldaknmenklaaGreatDoorW.PrintWords Go.Proofs.YtdcldaknmenklaaGreatDoorW.PrintLast Go.Proofs.YtdcldaknmenklaaGreatDoorW.PrintMore
attribute [local go_sem] max2_int min2_int max_two min_two max_three min_three max_four min_four
set_option linter.unusedVariables false
set_option linter.unusedSimpArgs false
def tok_source_from.f (a0 : ByteArray) (a1 : Int) : Option (ByteArray) := if 0 ≤ (mn a1 (a0.size : Int)) then (if (mn a1 (a0.size : Int)) ≤ (a0.size : Int) then (some (a0.extract ((mn a1 (a0.size : Int)) : Int).toNat a0.size)) else (none)) else (none)
set_option maxHeartbeats 8000000 in
set_option maxRecDepth 100000 in
theorem tok_source_from.calls (a0 : ByteArray) (a1 : Int) (r : ByteArray) (w : World) (h : tok_source_from.f a0 a1 = some r) :
  Calls Tryz.prog 86 #[.string a0, .int .i64 a1] w fun e w' => e = .returned (.string r) ∧ Below w.heap.size w w' := by
 have HB := aM (Below.refl w.heap.size w)
 have H : (if 0 ≤ (mn a1 (a0.size : Int)) then (if (mn a1 (a0.size : Int)) ≤ (a0.size : Int) then (some (a0.extract ((mn a1 (a0.size : Int)) : Int).toNat a0.size)) else (none)) else (none)) = some r := h
 clear h
 obtain ⟨ji3, hji3⟩ : ∃ j_ : Int, (mn a1 (a0.size : Int)) = j_ := ⟨_, rfl⟩
 replace H : (if 0 ≤ (ji3) then (if (ji3) ≤ (a0.size : Int) then (some (a0.extract ((ji3) : Int).toNat a0.size)) else (none)) else (none)) = some r := by first | (rw [hji3] at H; exact H) | (simp only [hji3] at H ⊢; exact H)
 have hji3_ : (if (a0.size : Int) < a1 then (a0.size : Int) else a1) = ji3 := hji3
 refine iNc H ?_ ?_<;>clear H<;>intro H c4
 rotate_left
 ·exact absurd H (by simp)
 have c4b0 := eq_true c4
 have c4b1 : decide (0 ≤ (ji3)) = true := decide_eq_true c4
 clear c4
 refine iNc H ?_ ?_<;>clear H<;>intro H c5
 rotate_left
 ·exact absurd H (by simp)
 have c5b0 := eq_true c5
 have c5b1 : decide ((ji3) ≤ (a0.size : Int)) = true := decide_eq_true c5
 clear c5
 obtain rfl := Option.some.inj H
 go_enter Tryz.func86, Tryz.ntmps86
 go_wp2
 go_ret
 exact ⟨by first | rfl | (simp [errW_none, errW_some] <;> rfl) | (simp only [← hji3]; first | rfl | (simp [errW_none, errW_some] <;> rfl)) | (simp [*, errW_none, errW_some] <;> rfl), bQ⟩
def stringslite_HasPrefix.f (a0 : ByteArray) (a1 : ByteArray) : Option (Bool) := if (a0.size : Int) ≥ (a1.size : Int) then (if 0 ≤ (a1.size : Int) then (if (a1.size : Int) ≤ (a0.size : Int) then (some ((a0.extract 0 ((a1.size : Int) : Int).toNat).toList == a1.toList)) else (none)) else (none)) else (some false)
set_option maxHeartbeats 8000000 in
set_option maxRecDepth 100000 in
theorem stringslite_HasPrefix.calls (a0 : ByteArray) (a1 : ByteArray) (r : Bool) (w : World) (h : stringslite_HasPrefix.f a0 a1 = some r) :
  Calls Tryz.prog 112 #[.string a0, .string a1] w fun e w' => e = .returned (.bool r) ∧ Drawn0 w w' := by
 have H : (if (a0.size : Int) ≥ (a1.size : Int) then (if 0 ≤ (a1.size : Int) then (if (a1.size : Int) ≤ (a0.size : Int) then (some ((a0.extract 0 ((a1.size : Int) : Int).toNat).toList == a1.toList)) else (none)) else (none)) else (some false)) = some r := h
 clear h
 refine iNc H ?_ ?_<;>clear H<;>intro H c3
 rotate_left
 ·have c3b0 : decide ((a1.size : Int) ≤ (a0.size : Int)) = false := decide_eq_false c3
  have c3b1 : decide (a1.size ≤ a0.size) = false := decide_eq_false (fun h => c3 (Int.ofNat_le.mpr h))
  clear c3
  obtain rfl := Option.some.inj H
  go_enter Tryz.func112, Tryz.ntmps112
  go_wp2
  go_ret
  exact ⟨by first | rfl | (simp; done) | (simp [*]; done), by repeat (first | exact Drawn0.refl _ | apply Drawn0.step)⟩
 have c3b0 : decide ((a1.size : Int) ≤ (a0.size : Int)) = true := decide_eq_true c3
 have c3b1 : decide (a1.size ≤ a0.size) = true := decide_eq_true (Int.ofNat_le.mp c3)
 clear c3
 refine iNc H ?_ ?_<;>clear H<;>intro H c4
 rotate_left
 ·exact absurd H (by simp)
 have c4b0 := eq_true c4
 have c4b1 : decide (0 ≤ (a1.size : Int)) = true := decide_eq_true c4
 clear c4
 refine iNc H ?_ ?_<;>clear H<;>intro H c5
 rotate_left
 ·exact absurd H (by simp)
 have c5b0 := eq_true c5
 have c5b1 : decide ((a1.size : Int) ≤ (a0.size : Int)) = true := decide_eq_true c5
 clear c5
 obtain rfl := Option.some.inj H
 go_enter Tryz.func112, Tryz.ntmps112
 go_wp2
 go_ret
 exact ⟨by first | rfl | (simp; done) | (simp [*]; done), by repeat (first | exact Drawn0.refl _ | apply Drawn0.step)⟩
end Go.Proofs.YtdcldaknmenklaaGreatDoor.M
end
