/- Packed by this session's program hbpack.py out of this claim's own texts (QK, G, Sh, Q18, Rf, Q30, Q48, Q31, Q32, Q33, Q19, Q23, Q11, Q15, Q13, Sh2, Lr, Cy, Q17, Sp, Pi16, Pj16, Rl, Q20, Q7, Q9, Q6): the same declarations, without those that the claim does not use. -/
import Derived.Test.YtdbadfcekomomaaDoorPkGlyphNames1
import Derived.Below
import Derived.Deep.Draws
import Derived.Deep.AppendLies
import Derived.Maps.AppendAt
import Derived.OwnWalk
import Derived.Laws.BytesArg
import Derived.Laws.MakeOwn
import Derived.Laws.OwnMore
import Derived.Deep.OwnRows
import Derived.Tactics
import Derived.Lib.ConvBytes
import Derived.Laws.Slices
import Derived.WalkKit
import Derived.KernelRfl
import Derived.RowKit3
import Derived.Deep.LoopGhost
import Derived.Deep.QuietTactic
import Derived.BigQuiet
import Derived.WideLaws
import Derived.Deep.DeepCutAuto
import Derived.Deep.CutBlock
import Derived.Deep.RegionHeld3
import Derived.Laws.Rows
import Derived.Lib.AppendStr
import Derived.ArgAppend
import Derived.Laws.IdiomCopy
import Derived.OrdersHeld
import Derived.Laws.BitsLemmas
import Derived.RowKit
import Derived.Test.YtdbadfcekomomaaDoorProg
import Derived.Lib.LaidTab
import Derived.Lib.Space
import Derived.Lib.ItoaNum
import Derived.Shelf.Strings.Builder1
import Derived.Shelf.Strings.Builder2
import Derived.Shelf.Strings.OnBuilder
import Derived.Shelf.Small.Utf8
import Derived.Shelf.Small.Strs
import Derived.Shelf.Strings.BuilderF
import Derived.Shelf.Strings.BuilderK
import Derived.Shelf.Strings.BuilderRune
import Derived.Shelf.Utf8.AppendRune
import Derived.Shelf.Utf8.AppendRunePlain
import Derived.Shelf.Strings.Builder2Cap
import Derived.Shelf.Strconv.Itoa0
import Derived.Shelf.Strconv.Itoa1
import Derived.Shelf.LaysM
import Derived.Shelf.Strconv.Itoa2
import Derived.Shelf.Strconv.Itoa3
import Derived.Shelf.Strconv.ParseIntEmpty
import Derived.Shelf.Strconv.Clone
import Derived.Shelf.Strconv.SyntaxError
import Derived.Shelf.LaysC
import Derived.Shelf.Strconv.ToError
import Derived.Shelf.Strconv.Lower
import Derived.Shelf.Strconv.ParseUint10
import Derived.Shelf.Strconv.ParseUint10Empty
import Derived.Shelf.Strconv.ParseUint10Any
import Derived.Shelf.Strconv.ParseInt10
import Derived.Shelf.Strconv.RangeError
import Derived.Shelf.Strconv.ToErrorRange
import Derived.Shelf.Strconv.ParseUintEmpty
import Derived.Shelf.Strconv.ParseUint10b64
import Derived.Shelf.Strconv.ParseUint10b32
import Derived.Shelf.Strconv.ParseUint10b16
import Derived.Shelf.Strconv.ParseUint10b8
import Derived.Shelf.Strconv.ParseUint10At
import Derived.Shelf.Strconv.ParseInt10At64
import Derived.Shelf.Strconv.ParseInt10At32
import Derived.Shelf.Strconv.ParseInt10At16
import Derived.Shelf.Strconv.ParseInt10At8
import Derived.Shelf.Strconv.ParseInt10All
import Derived.Shelf.Strconv.ParseIntPublic10
import Derived.Shelf.Strings.Search1
import Derived.Shelf.Strings.Search2
import Derived.Shelf.Strings.Search3
import Derived.Shelf.Strings.Cut
import Derived.Shelf.Strings.Shaped
import Derived.Shelf.Strings.Fields
import Derived.Shelf.Strings.SplitShaped
import Derived.Shelf.Unicode.Latin
import Derived.Shelf.Unicode.Decode
import Derived.Shelf.Strings.Runes
import Derived.Shelf.Strings.IndexAny
import Derived.Shelf.Strings.AsciiSet
import Derived.Shelf.Strings.IndexAnyAll
import Derived.Shelf.Unicode.DecodeSlow
import Derived.Shelf.Unicode.DecodeAny
import Derived.Shelf.Unicode.Is16White
import Derived.Shelf.Unicode.IsSpaceAny
import Derived.Shelf.Unicode.Is16WhiteD
import Derived.Shelf.Unicode.Is16Any
import Derived.Shelf.Unicode.Is32Any
import Derived.Shelf.Unicode.ExclAny
import Derived.Shelf.Strings.BuilderCap
import Derived.Lib.AppendZeros
import Derived.Lib.Walk
import Derived.Lib.SliceRun
import Derived.Lib.Strings
import Derived.Lib.IndexBytes
import Derived.Laws.RangeAny
import Derived.Laws.Runes
import Derived.Lib.IndexAny
import Derived.Lib.OthersKept
import Derived.Scope
import Derived.WalkMore
import Derived.Deep.RegionWith
import Derived.RangeFuncRecord
import Derived.RangeFuncSeq
import Derived.Shelf.Abstract
import Derived.Shelf.RegionOpen
import Derived.OwnWalkIn
import Derived.TacticsInMore
import Derived.LoopNIn
import Derived.LoopIn
import Derived.OneCell
import Derived.Lib.Builder
import Derived.Lib.AtoiAllMem
import Derived.Laws.Strings3
import Derived.Laws.Closers25
import Derived.Laws.Closers25b
import Derived.BigCall
import Derived.BigGuard
import Derived.RangeFuncOwn
import Derived.RangeFuncLeaves
import Derived.RangeFuncCalls
import Derived.RangeFuncFrom
import Derived.RangeFuncBox
section
/- Laid by this session's program hbprint.py out of the translation: the values' own kinds. -/
namespace Go.Proofs.YtdbadfcekomomaaDoor.M
open Go.RowKit Go.Proofs.YtdbadfcekomomaaDoorW.PrintWords Go.Proofs.YtdbadfcekomomaaDoorW.PrintLast Go.Proofs.YtdbadfcekomomaaDoorW.PrintMore
attribute [local go_sem] max2_int min2_int max_two min_two max_three min_three max_four min_four
set_option linter.unusedVariables false
set_option linter.unusedSimpArgs false
def errW : Option Int → Value
 | none => .nilIface
 | some c => .iface 0 (.int .i64 c)
theorem errW_none : errW none = .nilIface := rfl
theorem errW_some (c : Int) : errW (some c) = .iface 0 (.int .i64 c) := rfl
theorem info9 : (Tryd.prog.info? 9).map (fun i => (i.zero, i.size, i.bytes)) = some (some (.string ⟨#[]⟩), 1, 16) := by kernel_rfl
def rd_L1 (xs : List (List ByteArray)) (i : Int) : (List ByteArray) := xs.getD i.toNat ([] : List ByteArray)
theorem at_L1 {w : World} {A : Option Addr} {n : Nat} {xs : List (List ByteArray)} (h : Kd.C (Kd.slice 9 Kd.string) w A n xs) (i : Int) (h0 : 0 ≤ i) (h1 : i < n) : ∃ ad A0 c0, A = some ad ∧ w.cell? (ad.add i.toNat) = some (.slice A0 (rd_L1 xs i).length c0) ∧ (rd_L1 xs i).length ≤ c0 ∧ Kd.string.C w A0 (rd_L1 xs i).length (rd_L1 xs i) := by
 obtain ⟨ad, c, e, _, hK, hc0⟩ := Kd.C_get h ([] : List ByteArray) i h0 h1
 have hc : ∀ j u, c[j]? = some u → w.cell? (ad.add (i.toNat * 1 + j)) = some u := hc0
 obtain ⟨A0, c0, rfl, l0, g0⟩ := hK
 exact ⟨ad, A0, c0, e, by have hq := hc 0 _ rfl; rwa [Nat.mul_one, Nat.add_zero] at hq, l0, g0⟩
structure S46 where
 f0 : ByteArray
 f1 : (List Int)
def z46 : S46 := ⟨(⟨#[]⟩ : ByteArray), ([] : List Int)⟩
abbrev bA := @below_alloc
abbrev bD := @pw_below_drewN
abbrev b1 := @below_drew1
abbrev rA := @Kd.R_alloc
abbrev rD := @Kd.R_drewN
abbrev r1 := @Kd.R_drew
theorem aM {p : Prop} (h : p) : Aside0 p := ⟨h⟩
theorem repsS (w : World) (base : Nat) (ok : Nat → Prop) (r : List ByteArray) : Reps (Kd.M Kd.string w base ok) 1 r (r.map Value.string) := by
 refine ⟨by rw [List.length_map, Nat.mul_one], fun j p h => ?_⟩
 obtain ⟨hj, rfl⟩ := List.getElem?_eq_some_iff.1 h
 show ((r.map Value.string).drop (j * 1)).take 1 = [Value.string r[j]]
 rw [Nat.mul_one, ← List.map_drop, List.drop_eq_getElem_cons hj]
 rfl
theorem bQ {P : Prop} (h : P := by repeat first|(with_reducible first|exact HB.out|apply bA|apply bD|apply b1|refine below_set ?_ (Aside0.out (by assumption)))|exact HB.out) : P := h
theorem sB {w W w1 : World} (hb : Below W.heap.size W w1) (h : Below w.heap.size w W := by exact bQ) : Aside0 (Below w.heap.size w w1) := ⟨below_step h hb⟩
section
variable {α β : Type} {d : Kd α} {d' : Kd β} {e e' base base' : Nat} {ok ok' : Nat → Prop} {w W w1 : World} {v u : Value} {xs : List α} {ys : List β}
theorem rK (h : Aside0 (d.R e w base ok v xs)) (hb : Below W.heap.size W w1) (c : d.R e w base ok v xs → d.R e W base ok v xs := by intro h; (with_reducible repeat first|apply rA|apply rD|apply r1); exact h) : Aside0 (d.R e w1 base ok v xs) := ⟨Kd.R_below (c h.out) hb⟩
theorem mQ (h : Aside0 (d.R e w base ok v xs)) (c : d.R e w base ok v xs → d.R e W base ok v xs := by intro h; (with_reducible repeat first|apply rA|apply rD|apply r1); exact h) : d.R e W base ok v xs := c h.out
theorem eK (h : Aside0 (d.R e w base ok v xs)) (h0 : d'.R e' w1 W.heap.size ok' u ys) (hb : Below W.heap.size W w1) (c : d.R e w base ok v xs → d.R e W base ok v xs := by intro h; (with_reducible repeat first|apply rA|apply rD|apply r1); exact h) : Aside0 (d.R e w1 base (fun k => ok k ∧ some k ≠ u.ownBlock) v xs) := ⟨Kd.R_elder' (c h.out) (Kd.R_base h0) hb⟩
theorem lK (h : d.R e w1 W.heap.size ok v xs) (b : Below w.heap.size w W := by exact bQ) : Aside0 (d.R e w1 w.heap.size ok v xs) := ⟨Kd.R_lower h (below_size b)⟩
theorem nK {w0 : World} (h : d.R e w1 W.heap.size ok v xs) (h0 : Aside0 (d'.R e' w base' ok' u ys)) (c : d'.R e' w base' ok' u ys → d'.R e' W base' ok' u ys := by intro h; (with_reducible repeat first|apply rA|apply rD|apply r1); exact h) (b : Below w0.heap.size w0 W := by exact bQ) : Aside0 (d.R e w1 w0.heap.size (fun k => ok k ∧ some k ≠ u.ownBlock) v xs) := ⟨Kd.R_lower (Kd.R_new' h (Kd.R_lt (c h0.out))) (below_size b)⟩
theorem cQ {P : Prop} {A : Option Addr} {n c : Nat} (h : Aside0 (d.R e w base ok (.slice A n c) xs)) (p : d.C w A xs.length xs → P := by intro h; repeat (first | exact h | (with_reducible first|refine Kd.C_alloc ?_ _|refine Kd.C_drewN ?_ _|refine Kd.C_drew ?_))) : P := p (Kd.R_reads' h.out).2.2
end
section
variable {P : Program} {ops : Array Oper} {rest : List Oper} {oi : Oper} {a : Act} {Q : Exit → Act → World → Prop} {W : World}
theorem gC (f : FuncId) {xs : Array Operand} {ts : Array TypeId} (h : wpList P ops Q (oi :: rest) a W) (_ho : oi.op = .call { callee := .value (.func f), args := xs, argTypes := ts } := by exact rfl) : wpList P ops Q (oi :: rest) a W := h
theorem gD (N : Tmp) (h : wpList P ops Q (oi :: rest) a W) (_hN : oi.dst = some N := by exact rfl) : wpList P ops Q (oi :: rest) a W := h
theorem gL (N : Option Tmp) {f : FuncId} {fn : Func} {xs : Array Operand} {ts : Array TypeId} (hf : P.funcs[f]? = some fn) (args : Array Value) (h : Calls P f args W fun e w' => ∃ v, e = .returned v ∧ wpList P ops Q rest (a.put N v) w')
 (hd : oi.dst = N := by exact rfl) (hg : oi.guard = none := by exact rfl) (hname : (fn.name == "runtime.NumGoroutine") = false := by kernel_rfl) (hb : fn.body.isSome = true := by exact rfl) (hop : oi.op = .call { callee := .value (.func f), args := xs, argTypes := ts } := by exact rfl)
 (hargs : xs.map a.eval = args := by (try simp only [List.map_toArray, List.map_cons, List.map_nil]); first | done | rfl | (simp only [List.length_drop, List.length_take]; rfl)) : wpList P ops Q (oi :: rest) a W := goesL_ N hd hg hf hname hb args hop hargs h
end
theorem cB {P : Program} {f : FuncId} {args : Array Value} {w : World} {v : Value} {K : Value → World → Prop} (h : Calls P f args w fun e w' => e = .returned v ∧ Below w.heap.size w w') (k : ∀ w', Below w.heap.size w w' → K v w') : Calls P f args w fun e w' => ∃ v, e = .returned v ∧ K v w' := h.mono (by rintro e w' ⟨rfl, hb⟩; exact ⟨_, rfl, k _ hb⟩)
theorem vQ {P : Prop} (h : P := by first|rfl|(simp;done)|(simp [*];done)) : P := h
theorem hQ {P : Prop} (h : P := by first|with_reducible assumption|assumption) : P := h
theorem eQ {P : Prop} (h : P := by first | rfl | (simp [errW_none, errW_some] <;> rfl) | (simp [*, errW_none, errW_some] <;> rfl)) : P := h
theorem bS {α β : Type} {o : Option α} {f : α → Option β} {r : β} (h : o.bind f = some r) : ∃ x, Aside0 (o = some x) ∧ f x = some r := by
 obtain ⟨x, h1, h2⟩ := Option.bind_eq_some_iff.mp h
 exact ⟨x, ⟨h1⟩, h2⟩
section
variable {α : Type} {p : Prop} {_ : Decidable p} {x y z : α} {G : Prop}
theorem iD (H : (if p then x else y) = z) (h1 : x = z → decide p = true → G) (h2 : y = z → decide p = false → G) : G := by
 by_cases c : p
 ·exact h1 ((if_pos c).symm.trans H) (decide_eq_true c)
 ·exact h2 ((if_neg c).symm.trans H) (decide_eq_false c)
theorem iNc (H : (if p then x else y) = z) (h1 : x = z → p → G) (h2 : y = z → ¬ p → G) : G := by
 by_cases c : p
 ·exact h1 ((if_pos c).symm.trans H) c
 ·exact h2 ((if_neg c).symm.trans H) c
theorem iDc (H : (if p then x else y) = z) (h1 : x = z → decide p = true → p → G) (h2 : y = z → decide p = false → ¬ p → G) : G := by
 by_cases c : p
 ·exact h1 ((if_pos c).symm.trans H) (decide_eq_true c) c
 ·exact h2 ((if_neg c).symm.trans H) (decide_eq_false c) c
theorem iEc {β : Type} [BEq β] [LawfulBEq β] {a b : β} {_ : Decidable (a = b)} (H : (if a = b then x else y) = z) (h1 : x = z → (a == b) = true → (a != b) = false → a = b → G) (h2 : y = z → (a == b) = false → (a != b) = true → ¬ a = b → G) : G := by
 by_cases c : a = b
 ·exact h1 ((if_pos c).symm.trans H) (beq_iff_eq.mpr c) (bne_eq_false_iff_eq.mpr c) c
 ·exact h2 ((if_neg c).symm.trans H) (beq_eq_false_iff_ne.mpr c) (bne_iff_ne.mpr c) c
end
end Go.Proofs.YtdbadfcekomomaaDoor.M
end
section
namespace Go.Proofs.YtdbadfcekomomaaDoor.M
open Go.RowKit Go.Proofs.YtdbadfcekomomaaDoorW.PrintWords
set_option linter.unusedVariables false
theorem tab_below {P : Program} {n : String} {g : Nat} {k : IntKind} {zs : List Int} {w w' : World} (hg : P.globalNamed n = some g) (h : Lib.TabIs P w n k zs) (hb : Below w.heap.size w w') : Lib.TabIs P w' n k zs := by
 unfold Lib.TabIs World.var? at h ⊢
 rw [hg] at h ⊢
 simp only [Option.bind_some] at h ⊢
 have hlt : g < w.heap.size := by
  rcases Nat.lt_or_ge g w.heap.size with h' | h'
  ·exact h'
  ·rw [Array.getElem?_eq_none h'] at h; cases h
 rw [hb.block g hlt]
 exact h
/-- strconv.ErrRange holds a pointer to an errors.errorString; internal/bytealg.MaxLen holds some int. -/
structure GW (w : World) : Prop where
 range : ∃ a, w.cell? ⟨4, 0, none⟩ = some (.iface 129 (.pointer (some a)))
 syn : ∃ a, w.cell? ⟨3, 0, none⟩ = some (.iface 129 (.pointer (some a)))
 max : ∃ m : Int, w.cell? ⟨2, 0, none⟩ = some (.int .i64 m)
 space : Lib.TabIs Tryd.prog w "strings.asciiSpace" .u8 Lib.asciiSpaceTab
 pow : Lib.TabIs Tryd.prog w "internal/strconv.uint64pow10" .u64 Lib.pow10Tab
theorem GW.below {w w1 : World} (hb : Below w.heap.size w w1) (h : GW w) : GW w1 where
 range := h.range.imp fun _ e => pw_cell_below hb e
 syn := h.syn.imp fun _ e => pw_cell_below hb e
 max := h.max.imp fun _ e => pw_cell_below hb e
 space := tab_below (g := 0) (by kernel_rfl) h.space hb
 pow := tab_below (g := 7) (by kernel_rfl) h.pow hb
theorem gQ {w W : World} (hg : GW w) (h : Below w.heap.size w W := by exact bQ) : GW W := GW.below h hg
end Go.Proofs.YtdbadfcekomomaaDoor.M
end
section
namespace Go.Proofs
open Go.Shelf
def Tryd.lays156_ren : Go.Shelf.Ren := ⟨fun | 156 => 30 | 165 => 46 | 166 => 47 | 169 => 27 | 240 => 39 | 241 => 62 | 276 => 54 | 277 => 75 | n => n, fun | 31 => 28 | 9 => 9 | 3 => 3 | 4 => 4 | 0 => 0 | 20 => 20 | 72 => 49 | 76 => 52 | 70 => 47 | 37 => 34 | 75 => 51 | 127 => 68 | 164 => 89 | 5 => 5 | 80 => 40 | n => n, fun | n => n⟩
theorem Tryd.lays156 : Go.Proofs.Lays.n156 Tryd.prog Tryd.lays156_ren := {
 mixed := by kernel_rfl
 f156 := Tryd.func30.trans (congrArg some (by kernel_rfl))
 f165 := Tryd.func46.trans (congrArg some (by kernel_rfl))
 f166 := Tryd.func47.trans (congrArg some (by kernel_rfl))
 f169 := Tryd.func27.trans (congrArg some (by kernel_rfl))
 f240 := Tryd.func39.trans (congrArg some (by kernel_rfl))
 f241 := Tryd.func62.trans (congrArg some (by kernel_rfl))
 f276 := Tryd.func54.trans (congrArg some (by kernel_rfl))
 f277 := Tryd.func75.trans (congrArg some (by kernel_rfl))
 t0 := Tryd.underlying0
 a0 := Tryd.isAgg0
 z0 := Tryd.sizeOf0
 v0 := Tryd.zeroValue0
 t3 := Tryd.underlying3
 a3 := Tryd.isAgg3
 z3 := Tryd.sizeOf3
 v3 := Tryd.zeroValue3
 t4 := Tryd.underlying4
 a4 := Tryd.isAgg4
 z4 := Tryd.sizeOf4
 v4 := Tryd.zeroValue4
 t9 := Tryd.underlying9
 a9 := Tryd.isAgg9
 z9 := Tryd.sizeOf9
 v9 := Tryd.zeroValue9
 t20 := Tryd.underlying20
 a20 := Tryd.isAgg20
 z20 := Tryd.sizeOf20
 v20 := Tryd.zeroValue20
 t31 := Tryd.underlying28
 a31 := Tryd.isAgg28
 z31 := Tryd.sizeOf28
 v31 := Tryd.zeroValue28
 t37 := Tryd.underlying34
 a37 := Tryd.isAgg34
 z37 := Tryd.sizeOf34
 v37 := Tryd.zeroValue34
 t70 := Tryd.underlying47
 a70 := Tryd.isAgg47
 z70 := Tryd.sizeOf47
 v70 := Tryd.zeroValue47
 t72 := Tryd.underlying49
 a72 := Tryd.isAgg49
 z72 := Tryd.sizeOf49
 v72 := Tryd.zeroValue49
 t75 := Tryd.underlying51
 a75 := Tryd.isAgg51
 z75 := Tryd.sizeOf51
 v75 := Tryd.zeroValue51
 t76 := Tryd.underlying52
 a76 := Tryd.isAgg52
 z76 := Tryd.sizeOf52
 v76 := Tryd.zeroValue52
 t127 := Tryd.underlying68
 a127 := Tryd.isAgg68
 z127 := Tryd.sizeOf68
 v127 := Tryd.zeroValue68
 t164 := Tryd.underlying89
 a164 := Tryd.isAgg89
 z164 := Tryd.sizeOf89
 v164 := Tryd.zeroValue89 }
theorem Tryd.Builder_Extra_156 : Builder.Extra Tryd.prog Tryd.lays156_ren := {
 sizeBuilder := by kernel_rfl
 liesBuilder := by kernel_rfl
 t5 := Tryd.underlying5
 a5 := Tryd.isAgg5
 z5 := Tryd.sizeOf5
 v5 := Tryd.zeroValue5
 infoByte := by kernel_rfl
 cellsByte := by kernel_rfl
 sizeByte := by kernel_rfl
 neB5 := by decide }
open Go.RowKit in
/-- No element: the empty string; the world is as it was. (Whatever the slice's address and capacity: a nil slice too.) (LAID: no walk: one application.) -/
theorem Tryd.strings_Join_none (a : Option Addr) (c : Nat) (sep : ByteArray) (w : World) :
  Calls Tryd.prog 30 #[.slice a 0 c, .string sep] w fun e w' => e = .returned (.string ⟨#[]⟩) ∧ w' = w := Any.strings_Join_none Tryd.lays156 Tryd.Builder_Extra_156 a c sep w
open Go.RowKit in
/-- strings.Join: "Join concatenates the elements of its first argument to create a single string. The separator string sep is placed between elements in the resulting string.": HOWEVER MANY ELEMENTS. Below the heap's end the world is as it was. (LAID: no walk: one application.) -/
theorem Tryd.strings_Join (bk o c : Nat) (xs : List ByteArray) (sep : ByteArray) (w : World) (hcells : ∀ (j : Nat) x, xs[j]? = some x → w.cell? ⟨bk, o + j, none⟩ = some (.string x)) (hbk : bk < w.heap.size) (hN : xs.length ≤ 140737488355328) (hcap : xs.length ≤ c) (hlen : (Lib.join (xs.map (·.data.toList)) sep.data.toList).length ≤ 140737488355328) :
  Calls Tryd.prog 30 #[.slice (some ⟨bk, o, none⟩) xs.length c, .string sep] w fun e w' => e = .returned (.string ⟨(Lib.join (xs.map (·.data.toList)) sep.data.toList).toArray⟩) ∧ Below w.heap.size w w' := Any.strings_Join Tryd.lays156 Tryd.Builder_Extra_156 bk o c xs sep w hcells hbk hN hcap hlen
def Tryd.lays137_ren : Go.Shelf.Ren := ⟨fun | 137 => 56 | 217 => 60 | 266 => 73 | n => n, fun | 9 => 9 | 5 => 5 | 3 => 3 | n => n, fun | n => n⟩
theorem Tryd.lays137 : Go.Proofs.Lays.n137 Tryd.prog Tryd.lays137_ren := {
 mixed := by kernel_rfl
 f137 := Tryd.func56.trans (congrArg some (by kernel_rfl))
 f217 := Tryd.func60.trans (congrArg some (by kernel_rfl))
 f266 := Tryd.func73.trans (congrArg some (by kernel_rfl))
 t3 := Tryd.underlying3
 a3 := Tryd.isAgg3
 z3 := Tryd.sizeOf3
 v3 := Tryd.zeroValue3
 t5 := Tryd.underlying5
 a5 := Tryd.isAgg5
 z5 := Tryd.sizeOf5
 v5 := Tryd.zeroValue5
 t9 := Tryd.underlying9
 a9 := Tryd.isAgg9
 z9 := Tryd.sizeOf9
 v9 := Tryd.zeroValue9 }
open Go.RowKit in
/-- strings.IndexByte: "IndexByte returns the index of the first instance of c in s, or -1 if c is not present in s.": IT RETURNS 'Lib.indexByte s c'; the world is as it was. (LAID: no walk: one application.) -/
theorem Tryd.strings_IndexByte (s : ByteArray) (c : Int) (w : World) :
  Calls Tryd.prog 56 #[.string s, .int .u8 c] w fun e w' => e = .returned (.int .i64 (Lib.indexByte s.data.toList c.toNat.toUInt8)) ∧ w' = w := Any.strings_IndexByte Tryd.lays137 s c w
def Tryd.lays145_ren : Go.Shelf.Ren := ⟨fun | 145 => 18 | 220 => 29 | 219 => 45 | 217 => 60 | 225 => 59 | 224 => 58 | 267 => 61 | 266 => 73 | 314 => 74 | n => n, fun | 9 => 9 | 4 => 4 | 59 => 38 | 3 => 3 | 5 => 5 | 46 => 92 | 146 => 115 | 51 => 86 | n => n, fun | 1 => 2 | n => n⟩
theorem Tryd.lays145 : Go.Proofs.Lays.n145 Tryd.prog Tryd.lays145_ren := {
 mixed := by kernel_rfl
 f145 := Tryd.func18.trans (congrArg some (by kernel_rfl))
 f217 := Tryd.func60.trans (congrArg some (by kernel_rfl))
 f219 := Tryd.func45.trans (congrArg some (by kernel_rfl))
 f220 := Tryd.func29.trans (congrArg some (by kernel_rfl))
 f224 := Tryd.func58.trans (congrArg some (by kernel_rfl))
 f225 := Tryd.func59.trans (congrArg some (by kernel_rfl))
 f266 := Tryd.func73.trans (congrArg some (by kernel_rfl))
 f267 := Tryd.func61.trans (congrArg some (by kernel_rfl))
 f314 := Tryd.func74.trans (congrArg some (by kernel_rfl))
 t3 := Tryd.underlying3
 a3 := Tryd.isAgg3
 z3 := Tryd.sizeOf3
 v3 := Tryd.zeroValue3
 t4 := Tryd.underlying4
 a4 := Tryd.isAgg4
 z4 := Tryd.sizeOf4
 v4 := Tryd.zeroValue4
 t5 := Tryd.underlying5
 a5 := Tryd.isAgg5
 z5 := Tryd.sizeOf5
 v5 := Tryd.zeroValue5
 t9 := Tryd.underlying9
 a9 := Tryd.isAgg9
 z9 := Tryd.sizeOf9
 v9 := Tryd.zeroValue9
 t46 := Tryd.underlying92
 a46 := Tryd.isAgg92
 z46 := Tryd.sizeOf92
 v46 := Tryd.zeroValue92
 t51 := Tryd.underlying86
 a51 := Tryd.isAgg86
 z51 := Tryd.sizeOf86
 v51 := Tryd.zeroValue86
 t59 := Tryd.underlying38
 a59 := Tryd.isAgg38
 z59 := Tryd.sizeOf38
 v59 := Tryd.zeroValue38
 t146 := Tryd.underlying115
 a146 := Tryd.isAgg115
 z146 := Tryd.sizeOf115
 v146 := Tryd.zeroValue115
 g1 := by kernel_rfl }
open Go.RowKit Go.Lib in
/-- strings.Cut: "Cut slices s around the first instance of sep, returning the text before and after sep. The found result reports whether sep appears in s. If sep does not appear in s, cut returns s, "", false.": IT RETURNS 'Lib.cut s sep'; the world is as it was but for the count of draws. (LAID: no walk: one application.) -/
theorem Tryd.strings_Cut (s sep : ByteArray) (m : Int) (w : World) (hs : s.size < 4294967281) (hm : w.cell? ⟨2, 0, none⟩ = some (.int .i64 m)) :
  Calls Tryd.prog 18 #[.string s, .string sep] w fun e w' => e = .returned (.tuple #[.string ⟨(Lib.cut s.data.toList sep.data.toList).1.toArray⟩, .string ⟨(Lib.cut s.data.toList sep.data.toList).2.1.toArray⟩, .bool (Lib.cut s.data.toList sep.data.toList).2.2]) ∧ ∃ n, w' = w.drewN n := Any.strings_Cut Tryd.lays145 s sep m w hs hm
def Tryd.lays157_ren : Go.Shelf.Ren := ⟨fun | 157 => 23 | 229 => 37 | 199 => 38 | 261 => 53 | 311 => 71 | 312 => 72 | n => n, fun | 9 => 9 | 31 => 28 | 3 => 3 | 5 => 5 | 4 => 4 | 119 => 64 | 0 => 0 | 40 => 66 | 152 => 83 | 21 => 21 | 154 => 85 | 51 => 86 | 141 => 88 | 196 => 107 | 193 => 104 | 198 => 110 | 49 => 108 | 194 => 105 | 201 => 113 | 226 => 124 | 46 => 92 | 227 => 125 | n => n, fun | 0 => 0 | 6 => 1 | n => n⟩
theorem Tryd.lays157 : Go.Proofs.Lays.n157 Tryd.prog Tryd.lays157_ren := {
 mixed := by kernel_rfl
 f157 := Tryd.func23.trans (congrArg some (by kernel_rfl))
 f199 := Tryd.func38.trans (congrArg some (by kernel_rfl))
 f229 := Tryd.func37.trans (congrArg some (by kernel_rfl))
 f261 := Tryd.func53.trans (congrArg some (by kernel_rfl))
 f311 := Tryd.func71.trans (congrArg some (by kernel_rfl))
 f312 := Tryd.func72.trans (congrArg some (by kernel_rfl))
 t0 := Tryd.underlying0
 a0 := Tryd.isAgg0
 z0 := Tryd.sizeOf0
 v0 := Tryd.zeroValue0
 t3 := Tryd.underlying3
 a3 := Tryd.isAgg3
 z3 := Tryd.sizeOf3
 v3 := Tryd.zeroValue3
 t4 := Tryd.underlying4
 a4 := Tryd.isAgg4
 z4 := Tryd.sizeOf4
 v4 := Tryd.zeroValue4
 t5 := Tryd.underlying5
 a5 := Tryd.isAgg5
 z5 := Tryd.sizeOf5
 v5 := Tryd.zeroValue5
 t9 := Tryd.underlying9
 a9 := Tryd.isAgg9
 z9 := Tryd.sizeOf9
 v9 := Tryd.zeroValue9
 t21 := Tryd.underlying21
 a21 := Tryd.isAgg21
 z21 := Tryd.sizeOf21
 v21 := Tryd.zeroValue21
 t31 := Tryd.underlying28
 a31 := Tryd.isAgg28
 z31 := Tryd.sizeOf28
 v31 := Tryd.zeroValue28
 t40 := Tryd.underlying66
 a40 := Tryd.isAgg66
 z40 := Tryd.sizeOf66
 v40 := Tryd.zeroValue66
 t46 := Tryd.underlying92
 a46 := Tryd.isAgg92
 z46 := Tryd.sizeOf92
 v46 := Tryd.zeroValue92
 t49 := Tryd.underlying108
 a49 := Tryd.isAgg108
 z49 := Tryd.sizeOf108
 v49 := Tryd.zeroValue108
 t51 := Tryd.underlying86
 a51 := Tryd.isAgg86
 z51 := Tryd.sizeOf86
 v51 := Tryd.zeroValue86
 t119 := Tryd.underlying64
 a119 := Tryd.isAgg64
 z119 := Tryd.sizeOf64
 t141 := Tryd.underlying88
 a141 := Tryd.isAgg88
 z141 := Tryd.sizeOf88
 v141 := Tryd.zeroValue88
 t152 := Tryd.underlying83
 a152 := Tryd.isAgg83
 z152 := Tryd.sizeOf83
 v152 := Tryd.zeroValue83
 t154 := Tryd.underlying85
 a154 := Tryd.isAgg85
 z154 := Tryd.sizeOf85
 v154 := Tryd.zeroValue85
 t193 := Tryd.underlying104
 a193 := Tryd.isAgg104
 z193 := Tryd.sizeOf104
 v193 := Tryd.zeroValue104
 t194 := Tryd.underlying105
 a194 := Tryd.isAgg105
 z194 := Tryd.sizeOf105
 v194 := Tryd.zeroValue105
 t196 := Tryd.underlying107
 a196 := Tryd.isAgg107
 z196 := Tryd.sizeOf107
 v196 := Tryd.zeroValue107
 t198 := Tryd.underlying110
 a198 := Tryd.isAgg110
 z198 := Tryd.sizeOf110
 v198 := Tryd.zeroValue110
 t201 := Tryd.underlying113
 a201 := Tryd.isAgg113
 z201 := Tryd.sizeOf113
 v201 := Tryd.zeroValue113
 t226 := Tryd.underlying124
 a226 := Tryd.isAgg124
 z226 := Tryd.sizeOf124
 v226 := Tryd.zeroValue124
 t227 := Tryd.underlying125
 a227 := Tryd.isAgg125
 z227 := Tryd.sizeOf125
 v227 := Tryd.zeroValue125
 g0 := by kernel_rfl
 g6 := by kernel_rfl }
open Go.RowKit Go.Lib in
/-- strings.Fields, the table by 'Lib.TabIs' (as strings.TrimSpace's contract). 'hg': the table's number, by its name: at a dump 'by kernel_rfl'. (LAID: no walk: one application.) -/
theorem Tryd.strings_Fields (s : ByteArray) (w : World) (hs : s.size < 4294967281) (hascii : ∀ (j : Nat) b, s.data.toList[j]? = some b → b.toNat < 128) (htab : Lib.TabIs Tryd.prog w "strings.asciiSpace" .u8 Lib.asciiSpaceTab) :
  Calls Tryd.prog 23 #[.string s] w fun e w' =>
   e = .returned (.slice (some ⟨w.heap.size, 0, none⟩) (Lib.fields s.data.toList).length (Lib.fields s.data.toList).length) ∧ w' = w.alloc (.cells ((Lib.fields s.data.toList).map fun l => Value.string ⟨l.toArray⟩).toArray 9) := Any.strings_Fields Tryd.lays157 (by kernel_rfl) (by kernel_rfl) s w hs hascii htab
end Go.Proofs
end
section
namespace Go.Proofs.YtdbadfcekomomaaDoor.M
open Go.RowKit Go.Proofs.YtdbadfcekomomaaDoorW.PrintWords
set_option linter.unusedVariables false
def strings_Cut.f (a0 a1 : ByteArray) : Option (ByteArray × ByteArray × Bool) := if a0.size < 4294967281 then some (⟨(Lib.cut a0.data.toList a1.data.toList).1.toArray⟩, ⟨(Lib.cut a0.data.toList a1.data.toList).2.1.toArray⟩, (Lib.cut a0.data.toList a1.data.toList).2.2) else none
theorem strings_Cut.calls (a0 a1 : ByteArray) (r1 r2 : ByteArray) (r3 : Bool) (w : World) (hG : GW w) (h : strings_Cut.f a0 a1 = some (r1, r2, r3)) :
  Calls Tryd.prog 18 #[.string a0, .string a1] w fun e w' => e = .returned (.tuple #[.string r1, .string r2, .bool r3]) ∧ Below w.heap.size w w' := by
 unfold strings_Cut.f at h
 split at h
 case isFalse => cases h
 rename_i hb
 have h' := Option.some.inj h
 simp only [Prod.mk.injEq] at h'
 obtain ⟨rfl, rfl, rfl⟩ := h'
 obtain ⟨m, hm⟩ := hG.max
 refine (Tryd.strings_Cut a0 a1 m w hb hm).mono ?_
 rintro e w' ⟨rfl, n, rfl⟩
 exact ⟨rfl, pw_below_drewN (Below.refl _ _) n⟩
theorem strings_fresh (w : World) (xs : List ByteArray) (cells : Array Value) (n cap : Nat) (hn : xs.length = n) (hc : n ≤ cap) (hm : cap ≤ maxLen) (hs : cells.size = cap) (ht : cells.toList.take n = xs.map Value.string) :
  Kd.R Kd.string 9 (w.alloc (.cells cells 9)) w.heap.size (fun _ => True) (.slice (some ⟨w.heap.size, 0, none⟩) n cap) xs := by
 subst hn
 refine Kd.R_of_own ?_ (fun _ _ => trivial)
 refine ⟨by simp [encs], .inr ⟨w.heap.size, cap, cells, rfl, Nat.le_refl _, by show (w.heap.push _)[w.heap.size]? = _; rw [Array.getElem?_push_size], hc, hm, by rw [hs, Nat.mul_one], ?_⟩⟩
 rw [Nat.mul_one, ht]
 rfl
theorem strings_read {w : World} {A : Option Addr} {n : Nat} {xs : List ByteArray} (h : Kd.C Kd.string w A n xs) (h0 : 0 < n) :
  ∃ b o, A = some ⟨b, o, none⟩ ∧ b < w.heap.size ∧ ∀ (j : Nat) x, xs[j]? = some x → w.cell? ⟨b, o + j, none⟩ = some (.string x) := by
 obtain ⟨ad, e, hc⟩ := Kd.at_string h 0 (Int.le_refl _) (by omega)
 obtain ⟨b, o, sp⟩ := ad
 have hsp : sp = none := by
  cases sp with
  | none => rfl
  | some s =>
   exfalso
   unfold World.cell? at hc
   simp only [Addr.add] at hc
   split at hc
   ·simp at hc
   ·cases hc
 subst hsp
 refine ⟨b, o, e, World.block_lt_of_cell? w _ hc, ?_⟩
 intro j x hx
 have hl : xs.length = n := h.1
 have hj : j < xs.length := by
  rcases Nat.lt_or_ge j xs.length with h' | h'
  ·exact h'
  ·rw [List.getElem?_eq_none h'] at hx; cases hx
 obtain ⟨ad', e', hc'⟩ := Kd.at_string h (j : Int) (by omega) (by omega)
 have ea : ad' = ⟨b, o, none⟩ := Option.some.inj (e'.symm.trans e)
 subst ea
 have ex : rdOf ByteArray.empty xs (j : Int) = x := by
  unfold rdOf
  rw [Int.toNat_natCast, List.getD_eq_getElem?_getD, hx]; rfl
 rw [ex] at hc'
 by_cases e0 : j = 0
 ·subst e0; simpa [Addr.add] using hc'
 ·simpa [Addr.add, e0] using hc'
def joinB (l : List ByteArray) (sep : ByteArray) : List UInt8 := Lib.join (l.map (·.data.toList)) sep.data.toList
def strings_Join.f (l0 : List ByteArray) (a1 : ByteArray) : Option ByteArray := if l0.length ≤ 140737488355328 ∧ (joinB l0 a1).length ≤ 140737488355328 then some ⟨(joinB l0 a1).toArray⟩ else none
theorem strings_Join.calls (A0 : Option Addr) (c0 : Nat) (l0 : List ByteArray) (a1 : ByteArray) (r : ByteArray) (w : World) (hr0 : Kd.C Kd.string w A0 l0.length l0) (hc0 : l0.length ≤ c0) (h : strings_Join.f l0 a1 = some r) :
  Calls Tryd.prog 30 #[.slice A0 l0.length c0, .string a1] w fun e w' => e = .returned (.string r) ∧ Below w.heap.size w w' := by
 unfold strings_Join.f at h
 split at h
 case isFalse => cases h
 rename_i hb
 obtain rfl := Option.some.inj h
 by_cases h0 : l0 = []
 ·subst h0
  refine (Tryd.strings_Join_none A0 c0 a1 w).mono ?_
  rintro e w' ⟨rfl, rfl⟩
  exact ⟨rfl, Below.refl _ _⟩
 ·obtain ⟨b, o, rfl, hbk, hcell⟩ := strings_read hr0 (List.length_pos_iff.2 h0)
  refine (Tryd.strings_Join b o c0 l0 a1 w hcell hbk hb.1 hc0 hb.2).mono ?_
  rintro e w' ⟨rfl, hbw⟩
  exact ⟨rfl, hbw⟩
def slices_Grow_string_string.f (l0 : List ByteArray) (a1 : Int) : Option (List ByteArray) := if l0 = [] ∧ 0 ≤ a1 ∧ a1 ≤ 8796093022208 then some [] else none
set_option maxHeartbeats 4000000 in
set_option maxRecDepth 100000 in
theorem slices_Grow_string_string.calls_nil (a1 : Int) (r : List ByteArray) (w : World) (h : slices_Grow_string_string.f [] a1 = some r) :
  Calls Tryd.prog 48 #[.slice none 0 0, .int .i64 a1] w fun e w' => ∃ v0_ : Value, e = .returned (v0_) ∧ Kd.R Kd.string 9 w' w.heap.size (fun _ => True) v0_ r ∧ Below w.heap.size w w' := by
 unfold slices_Grow_string_string.f at h
 split at h
 case isFalse => cases h
 rename_i hb
 obtain rfl := Option.some.inj h
 clear h
 obtain ⟨-, h0, h1⟩ := hb
 obtain ⟨n, rfl⟩ := Int.eq_ofNat_of_zero_le h0
 clear h0
 by_cases hz : n = 0
 ·subst hz
  go_enter Tryd.func48, Tryd.ntmps48
  go_wp2
  all_goals (go_ret; exact ⟨_, rfl, Kd.R_nil _ _ _ _ _, Below.refl _ _⟩)
 ·have hmap : (Tryd.prog.info? 9).map (fun i => (i.zero, i.size, i.bytes)) = some (some (.string ⟨#[]⟩), 1, 16) := by kernel_rfl
  obtain ⟨i, hi, hi2⟩ := Option.map_eq_some_iff.1 hmap
  simp only [Prod.mk.injEq] at hi2
  obtain ⟨hi0, hi1, hib⟩ := hi2
  have hrz := fun ty => Lib.run_append_nil_zeros (P := Tryd.prog) w 28 3 ty 9 i (.string ⟨#[]⟩) .i64 .i64 Tryd.underlying28 Tryd.underlying3 hi hi0 n (by omega) (by omega) (by omega) (by rw [hib]; omega)
  clear hmap hi hi0 hi1 hib
  have hGn : n ≤ grownCap w n 0 9 := grownCap_ge w _ _ _
  have hG := grownCap_le_maxLen w n 0 9 (by unfold maxLen; omega)
  generalize grownCap w n 0 9 = G at hrz hGn hG
  go_enter Tryd.func48, Tryd.ntmps48
  go_wp2_with (at_builtin; refine Lib.wpList_append_run _ rfl _ _ _ _ rfl _ _ rfl rfl _ _ (hrz _) ?_)
  all_goals (go_ret; refine ⟨_, rfl, ?_, below_alloc (below_drew (Below.refl _ w)) _⟩)
  all_goals exact strings_fresh w.drew [] _ 0 G rfl (Nat.zero_le _) hG (by rw [Array.size_append, size_zeroCells, size_zeroCells]; show n * 1 + (G - n) * 1 = G; omega) (by simp)
end Go.Proofs.YtdbadfcekomomaaDoor.M
end
section
/- Laid by this session's program hbprint.py out of the translation: the function slices.Concat   string string  and its contract. -/
namespace Go.Proofs.YtdbadfcekomomaaDoor.M
open Go.RowKit Go.Proofs.YtdbadfcekomomaaDoorW.PrintWords Go.Proofs.YtdbadfcekomomaaDoorW.PrintLast Go.Proofs.YtdbadfcekomomaaDoorW.PrintMore
attribute [local go_sem] max2_int min2_int max_two min_two max_three min_three max_four min_four
set_option linter.unusedVariables false
set_option linter.unusedSimpArgs false
mutual
def slices_Concat_string_string.l0 : Nat → List (List ByteArray) → Int → List (List ByteArray) → Int → Int → Option (List ByteArray)
 | 0, _, _, _, _, _ => none
 | k + 1, x0, x3, x9, x10, x11 => if x11 < x10 then (if 0 ≤ x11 then (if x11 < (x9.length : Int) then (if (wrap64 (x3 + ((rd_L1 x9 x11).length : Int))) < 0 then (none) else (slices_Concat_string_string.l0 k x0 (wrap64 (x3 + ((rd_L1 x9 x11).length : Int))) x9 x10 (wrap64 (x11 + 1)))) else (none)) else (none)) else ((slices_Grow_string_string.f ([] : List ByteArray) x3).bind fun t102 => (slices_Concat_string_string.l1 k t102 x0 (x0.length : Int) 0))
def slices_Concat_string_string.l1 : Nat → List ByteArray → List (List ByteArray) → Int → Int → Option (List ByteArray)
 | 0, _, _, _, _ => none
 | k + 1, x6, x25, x26, x27 => if x27 < x26 then (if 0 ≤ x27 then (if x27 < (x25.length : Int) then (if x6.length + (rd_L1 x25 x27).length < 8796093022208 then (slices_Concat_string_string.l1 k (x6 ++ (rd_L1 x25 x27)) x25 x26 (wrap64 (x27 + 1))) else (none)) else (none)) else (none)) else (some x6)
end
def slices_Concat_string_string.f (k : Nat) (l0 : List (List ByteArray)) : Option (List ByteArray) := slices_Concat_string_string.l0 k l0 0 l0 (l0.length : Int) 0
theorem slices_Concat_string_string.mono_l : ∀ k, (∀ y0 y1 y2 y3 y4, LeO (slices_Concat_string_string.l0 k y0 y1 y2 y3 y4) (slices_Concat_string_string.l0 (k + 1) y0 y1 y2 y3 y4)) ∧ (∀ y0 y1 y2 y3, LeO (slices_Concat_string_string.l1 k y0 y1 y2 y3) (slices_Concat_string_string.l1 (k + 1) y0 y1 y2 y3))
 | 0 => ⟨fun _ _ _ _ _ r h => by simp [slices_Concat_string_string.l0] at h, fun _ _ _ _ r h => by simp [slices_Concat_string_string.l1] at h⟩
 | k + 1 => by
  obtain ⟨ih0, ih1⟩ := slices_Concat_string_string.mono_l k
  refine ⟨?_, ?_⟩
  ·intro y0 y1 y2 y3 y4
   unfold slices_Concat_string_string.l0
   repeat' first
   | (with_reducible exact ih0 _ _ _ _ _)
   | (with_reducible exact ih1 _ _ _ _)
   | (with_reducible exact LeO.refl _)
   | (with_reducible exact LeO.none _)
   | (with_reducible refine LeO.ite ?_ ?_)
   | (with_reducible refine LeO.bind ?_ (fun _ => ?_))
   | exact ih0 _ _ _ _ _
   | exact ih1 _ _ _ _
   | exact LeO.none _
   | refine LeO.ite ?_ ?_
   | refine LeO.bind ?_ (fun _ => ?_)
  ·intro y0 y1 y2 y3
   unfold slices_Concat_string_string.l1
   repeat' first
   | (with_reducible exact ih0 _ _ _ _ _)
   | (with_reducible exact ih1 _ _ _ _)
   | (with_reducible exact LeO.refl _)
   | (with_reducible exact LeO.none _)
   | (with_reducible refine LeO.ite ?_ ?_)
   | (with_reducible refine LeO.bind ?_ (fun _ => ?_))
   | exact ih0 _ _ _ _ _
   | exact ih1 _ _ _ _
   | exact LeO.none _
   | refine LeO.ite ?_ ?_
   | refine LeO.bind ?_ (fun _ => ?_)
theorem slices_Concat_string_string.mono : ∀ a0 k, LeO (slices_Concat_string_string.f k a0) (slices_Concat_string_string.f (k + 1) a0) := by
 intro a0 k
 obtain ⟨ih0, ih1⟩ := slices_Concat_string_string.mono_l k
 unfold slices_Concat_string_string.f
 repeat' first
   | (with_reducible exact ih0 _ _ _ _ _)
   | (with_reducible exact ih1 _ _ _ _)
   | (with_reducible exact LeO.refl _)
   | (with_reducible exact LeO.none _)
   | (with_reducible refine LeO.ite ?_ ?_)
   | (with_reducible refine LeO.bind ?_ (fun _ => ?_))
   | exact ih0 _ _ _ _ _
   | exact ih1 _ _ _ _
   | exact LeO.none _
   | refine LeO.ite ?_ ?_
   | refine LeO.bind ?_ (fun _ => ?_)
set_option maxHeartbeats 8000000 in
set_option maxRecDepth 100000 in
theorem slices_Concat_string_string.calls (k : Nat) (A0 : Option Addr) (c0 : Nat) (l0 : List (List ByteArray)) (r : List ByteArray) (w : World) (hr0 : Kd.C (Kd.slice 9 Kd.string) w A0 l0.length l0) (hc0 : l0.length ≤ c0) (h : slices_Concat_string_string.f k l0 = some r) :
  Calls Tryd.prog 31 #[.slice A0 l0.length c0] w fun e w' => ∃ v0_ : Value, e = .returned (v0_) ∧ Kd.R Kd.string 9 w' w.heap.size (fun _ => True) v0_ r ∧ Below w.heap.size w w' := by
 have HR0 := aM hr0
 have HC0 := aM hc0
 clear hr0 hc0
 have HB := aM (Below.refl w.heap.size w)
 have H : (slices_Concat_string_string.l0 k l0 0 l0 (l0.length : Int) 0) = some r := h
 clear h
 have H' := aM H
 clear H
 go_enter Tryd.func31, Tryd.ntmps31
 go_wp2
 go_loopg [3, 11] k (fun kq v3 v11 w' => ∃ (x3_1 : Int) (x11_1 : Int), v3 = .int .i64 x3_1 ∧ v11 = .int .i64 x11_1 ∧ Aside0 (slices_Concat_string_string.l0 kq l0 x3_1 l0 (l0.length : Int) x11_1 = some r) ∧ Aside0 (kq ≤ k) ∧ Aside0 (Below w.heap.size w w'))
 case atStart => exact ⟨(0), (0), vQ, vQ, H', ⟨Nat.le_refl _⟩, ⟨bQ⟩⟩
 case round =>
  clear H'
  obtain ⟨x3_1, x11_1, rfl, rfl, HA, HK1, HB⟩ := hrel
  cases gk with
  | zero => exact absurd HA.out (by simp [slices_Concat_string_string.l0])
  | succ k1 =>
   have H := HA.out
   clear HA
   simp only [slices_Concat_string_string.l0] at H
   refine iD H ?_ ?_<;>clear H<;>intro H c2b0
   ·refine iD H ?_ ?_<;>clear H<;>intro H c3b0
    rotate_left
    ·exact absurd H (by simp)
    refine iD H ?_ ?_<;>clear H<;>intro H c4b0
    rotate_left
    ·exact absurd H (by simp)
    refine iD H ?_ ?_<;>clear H<;>intro H c5b0
    ·exact absurd H (by simp)
    have H' := aM H
    clear H
    have p101 : 0 ≤ (x11_1 : Int) := of_decide_eq_true hQ
    have q101 : x11_1 < (l0.length : Int) := of_decide_eq_true hQ
    obtain ⟨ad101, A101_0, c101_0, e101, hx101_0, hl101_0, hi101_0⟩ := at_L1 HR0.out x11_1 p101 q101
    cases e101
    replace hx101_0 := (HB.out.cell (World.block_lt_of_cell? w _ hx101_0)).trans hx101_0
    have HR101_0 := aM hi101_0
    have HC101_0 := aM hl101_0
    clear hi101_0 hl101_0
    replace p101 := eq_true p101
    replace q101 := eq_true q101
    go_wp2
    go_roundg k1
    case measure => have := HK1.out; omega
    case rel => exact ⟨(wrap64 (x3_1 + ((rd_L1 l0 x11_1).length : Int))), (wrap64 (x11_1 + 1)), vQ, vQ, H', ⟨by have := HK1.out; omega⟩, ⟨bQ⟩⟩
   replace H := bS H
   obtain ⟨t102, A6, H⟩ := H
   try dsimp only at H
   have H' := aM H
   clear H
   go_wp2_with (first | ((with_reducible refine gC 48 ?_); refine gL (some 24) Tryd.func48 #[.slice none 0 0, .int .i64 x3_1] ?_; (refine (slices_Grow_string_string.calls_nil x3_1 t102 _ A6.out).mono ?_); rintro e w7 ⟨v103, rfl, ho0, hb⟩; refine ⟨_, rfl, ?_⟩; have HO104 := lK ho0; replace HB := sB hb; clear hb ho0))
   go_loopg [6, 27] k1 (fun kq v6 v27 w' => ∃ (x6_2 : List ByteArray) (x27_2 : Int), v27 = .int .i64 x27_2 ∧ Aside0 (slices_Concat_string_string.l1 kq x6_2 l0 (l0.length : Int) x27_2 = some r) ∧ Aside0 (kq ≤ k1) ∧ Aside0 (Kd.R Kd.string 9 w' w.heap.size (fun _ => True) v6 x6_2) ∧ Aside0 (Below w.heap.size w w'))
   case atStart => exact ⟨(t102), (0), vQ, H', ⟨Nat.le_refl _⟩, ⟨mQ HO104⟩, ⟨bQ⟩⟩
   case round =>
    clear H'
    try clear c1
    try clear p1
    try clear q1
    try clear hx1
    try clear c2
    try clear c2b0
    try clear p2
    try clear c3
    try clear c3b0
    try clear c4
    try clear c4b0
    try clear c5
    try clear c5b0
    try clear p6
    try clear hx101_0
    try clear p101
    try clear q101
    obtain ⟨x6_2, x27_2, rfl, HA, HK2, HO_6, HB⟩ := hrel
    cases gk with
    | zero => exact absurd HA.out (by simp [slices_Concat_string_string.l1])
    | succ k2 =>
     have H := HA.out
     clear HA
     simp only [slices_Concat_string_string.l1] at H
     refine iD H ?_ ?_<;>clear H<;>intro H c8b0
     rotate_left
     ·obtain rfl := Option.some.inj H
      go_wp2
      go_ret
      exact ⟨_, eQ, mQ HO_6, bQ⟩
     refine iD H ?_ ?_<;>clear H<;>intro H c9b0
     rotate_left
     ·exact absurd H (by simp)
     refine iD H ?_ ?_<;>clear H<;>intro H c10b0
     rotate_left
     ·exact absurd H (by simp)
     refine iNc H ?_ ?_<;>clear H<;>intro H c11
     rotate_left
     ·exact absurd H (by simp)
     have LMc11 := aM c11
     clear c11
     obtain ⟨y106, hy106⟩ : ∃ y_ : List ByteArray, y_ = (x6_2 ++ (rd_L1 l0 x27_2)) := ⟨_, rfl⟩
     replace H : (slices_Concat_string_string.l1 k2 y106 l0 (l0.length : Int) (wrap64 (x27_2 + 1))) = some r := by first | (rw [hy106]; with_reducible exact H) | (have H2_ := (Option.bind_some _ _).symm.trans H; rw [hy106]; with_reducible exact H2_) | (have H2_ := (Option.bind_some _ _).symm.trans H; with_reducible exact H2_) | with_reducible exact H | (rw [hy106]; exact H) | exact H
     have Ny106 := aM hy106
     clear hy106
     have H' := aM H
     clear H
     have p105 : 0 ≤ (x27_2 : Int) := of_decide_eq_true hQ
     have q105 : x27_2 < (l0.length : Int) := of_decide_eq_true hQ
     obtain ⟨ad105, A105_0, c105_0, e105, hx105_0, hl105_0, hi105_0⟩ := at_L1 HR0.out x27_2 p105 q105
     cases e105
     replace hx105_0 := (HB.out.cell (World.block_lt_of_cell? w _ hx105_0)).trans hx105_0
     have HR105_0 := aM hi105_0
     have HC105_0 := aM hl105_0
     clear hi105_0 hl105_0
     replace p105 := eq_true p105
     replace q105 := eq_true q105
     go_wp2_with (first | ((with_reducible refine gate_builtin (b := .append) (xs := #[.tmp 31, .tmp 32]) rfl ?_); at_builtin; refine Kd.R_append_rows Kd.string (w0 := w) w.heap.size rfl (.tmp 31) (.tmp 32) 28 9 (.string ⟨#[]⟩) 16 rfl Tryd.underlying28 info9 rfl (by decide) (by omega) u6 x6_2 (rd_L1 l0 x27_2) _ _ _ (fun _ => True) (fun _ => False) rfl rfl ?aO ?aR (fun _ _ h => h) (fun _ h => h.elim) ?aF ?aB ?aS ?aL ?_; (case aR => repeat (first | exact (Kd.C_below HR105_0.out HB.out) | (with_reducible first|refine Kd.C_alloc ?_ _|refine Kd.C_drewN ?_ _|refine Kd.C_drew ?_))); (case aB => exact bQ); (case aF => exact (fun _ _ => trivial)); (case aO => exact (mQ HO_6)); (case aS => exact (below_size bQ)); (case aL => have := LMc11.out; omega); intro v107 w12 ho hb hg hat; rw [← Ny106.out] at ho; have n0_ := aM hb; have n1_ := aM ho; clear HB; clear HO_6; have HB := n0_; have HO108 := n1_; clear n0_ n1_; clear ho hb hg hat))
     go_roundg k2
     case measure => have := HK1.out; have := HK2.out; omega
     case rel => exact ⟨(y106), (wrap64 (x27_2 + 1)), vQ, H', ⟨by have := HK1.out; have := HK2.out; omega⟩, ⟨mQ HO108⟩, ⟨bQ⟩⟩
end Go.Proofs.YtdbadfcekomomaaDoor.M
end
section
namespace Go.Proofs.YtdbadfcekomomaaDoor.M
open Go.RowKit Go.Proofs.YtdbadfcekomomaaDoorW.PrintWords Go.Proofs.YtdbadfcekomomaaDoorW.PrintLast Go.Proofs.YtdbadfcekomomaaDoorW.PrintMore
attribute [local go_sem] max2_int min2_int max_two min_two max_three min_three max_four min_four
set_option linter.unusedVariables false
set_option linter.unusedSimpArgs false
def glyph_part1.f  : Option (List ByteArray) := some (([(⟨#[115, 112, 97, 99, 101, 61, 48, 48, 50, 48, 32, 101, 120, 99, 108, 97, 109, 61, 48, 48, 50, 49, 32, 113, 117, 111, 116, 101, 100, 98, 108, 61, 48, 48, 50, 50, 32, 110, 117, 109, 98, 101, 114, 115, 105, 103, 110, 61, 48, 48, 50, 51, 32, 100, 111, 108, 108, 97, 114, 61, 48, 48, 50, 52, 32, 112, 101, 114, 99, 101, 110, 116, 61, 48, 48, 50, 53]⟩ : ByteArray), (⟨#[97, 109, 112, 101, 114, 115, 97, 110, 100, 61, 48, 48, 50, 54, 32, 113, 117, 111, 116, 101, 115, 105, 110, 103, 108, 101, 61, 48, 48, 50, 55, 32, 112, 97, 114, 101, 110, 108, 101, 102, 116, 61, 48, 48, 50, 56, 32, 112, 97, 114, 101, 110, 114, 105, 103, 104, 116, 61, 48, 48, 50, 57, 32, 97, 115, 116, 101, 114, 105, 115, 107, 61, 48, 48, 50, 65, 32, 112, 108, 117, 115, 61, 48, 48, 50, 66]⟩ : ByteArray), (⟨#[99, 111, 109, 109, 97, 61, 48, 48, 50, 67, 32, 104, 121, 112, 104, 101, 110, 61, 48, 48, 50, 68, 32, 112, 101, 114, 105, 111, 100, 61, 48, 48, 50, 69, 32, 115, 108, 97, 115, 104, 61, 48, 48, 50, 70, 32, 122, 101, 114, 111, 61, 48, 48, 51, 48, 32, 111, 110, 101, 61, 48, 48, 51, 49]⟩ : ByteArray), (⟨#[116, 119, 111, 61, 48, 48, 51, 50, 32, 116, 104, 114, 101, 101, 61, 48, 48, 51, 51, 32, 102, 111, 117, 114, 61, 48, 48, 51, 52, 32, 102, 105, 118, 101, 61, 48, 48, 51, 53, 32, 115, 105, 120, 61, 48, 48, 51, 54, 32, 115, 101, 118, 101, 110, 61, 48, 48, 51, 55]⟩ : ByteArray), (⟨#[101, 105, 103, 104, 116, 61, 48, 48, 51, 56, 32, 110, 105, 110, 101, 61, 48, 48, 51, 57, 32, 99, 111, 108, 111, 110, 61, 48, 48, 51, 65, 32, 115, 101, 109, 105, 99, 111, 108, 111, 110, 61, 48, 48, 51, 66, 32, 108, 101, 115, 115, 61, 48, 48, 51, 67, 32, 101, 113, 117, 97, 108, 61, 48, 48, 51, 68]⟩ : ByteArray), (⟨#[103, 114, 101, 97, 116, 101, 114, 61, 48, 48, 51, 69, 32, 113, 117, 101, 115, 116, 105, 111, 110, 61, 48, 48, 51, 70, 32, 97, 116, 61, 48, 48, 52, 48, 32, 65, 61, 48, 48, 52, 49, 32, 66, 61, 48, 48, 52, 50, 32, 67, 61, 48, 48, 52, 51]⟩ : ByteArray), (⟨#[68, 61, 48, 48, 52, 52, 32, 69, 61, 48, 48, 52, 53, 32, 70, 61, 48, 48, 52, 54, 32, 71, 61, 48, 48, 52, 55, 32, 72, 61, 48, 48, 52, 56, 32, 73, 61, 48, 48, 52, 57]⟩ : ByteArray), (⟨#[74, 61, 48, 48, 52, 65, 32, 75, 61, 48, 48, 52, 66, 32, 76, 61, 48, 48, 52, 67, 32, 77, 61, 48, 48, 52, 68, 32, 78, 61, 48, 48, 52, 69, 32, 79, 61, 48, 48, 52, 70]⟩ : ByteArray), (⟨#[80, 61, 48, 48, 53, 48, 32, 81, 61, 48, 48, 53, 49, 32, 82, 61, 48, 48, 53, 50, 32, 83, 61, 48, 48, 53, 51, 32, 84, 61, 48, 48, 53, 52, 32, 85, 61, 48, 48, 53, 53]⟩ : ByteArray), (⟨#[86, 61, 48, 48, 53, 54, 32, 87, 61, 48, 48, 53, 55, 32, 88, 61, 48, 48, 53, 56, 32, 89, 61, 48, 48, 53, 57, 32, 90, 61, 48, 48, 53, 65, 32, 98, 114, 97, 99, 107, 101, 116, 108, 101, 102, 116, 61, 48, 48, 53, 66]⟩ : ByteArray), (⟨#[98, 97, 99, 107, 115, 108, 97, 115, 104, 61, 48, 48, 53, 67, 32, 98, 114, 97, 99, 107, 101, 116, 114, 105, 103, 104, 116, 61, 48, 48, 53, 68, 32, 97, 115, 99, 105, 105, 99, 105, 114, 99, 117, 109, 61, 48, 48, 53, 69, 32, 117, 110, 100, 101, 114, 115, 99, 111, 114, 101, 61, 48, 48, 53, 70, 32, 103, 114, 97, 118, 101, 61, 48, 48, 54, 48, 32, 97, 61, 48, 48, 54, 49]⟩ : ByteArray), (⟨#[98, 61, 48, 48, 54, 50, 32, 99, 61, 48, 48, 54, 51, 32, 100, 61, 48, 48, 54, 52, 32, 101, 61, 48, 48, 54, 53, 32, 102, 61, 48, 48, 54, 54, 32, 103, 61, 48, 48, 54, 55]⟩ : ByteArray), (⟨#[104, 61, 48, 48, 54, 56, 32, 105, 61, 48, 48, 54, 57, 32, 106, 61, 48, 48, 54, 65, 32, 107, 61, 48, 48, 54, 66, 32, 108, 61, 48, 48, 54, 67, 32, 109, 61, 48, 48, 54, 68]⟩ : ByteArray), (⟨#[110, 61, 48, 48, 54, 69, 32, 111, 61, 48, 48, 54, 70, 32, 112, 61, 48, 48, 55, 48, 32, 113, 61, 48, 48, 55, 49, 32, 114, 61, 48, 48, 55, 50, 32, 115, 61, 48, 48, 55, 51]⟩ : ByteArray), (⟨#[116, 61, 48, 48, 55, 52, 32, 117, 61, 48, 48, 55, 53, 32, 118, 61, 48, 48, 55, 54, 32, 119, 61, 48, 48, 55, 55, 32, 120, 61, 48, 48, 55, 56, 32, 121, 61, 48, 48, 55, 57]⟩ : ByteArray), (⟨#[122, 61, 48, 48, 55, 65, 32, 98, 114, 97, 99, 101, 108, 101, 102, 116, 61, 48, 48, 55, 66, 32, 98, 97, 114, 61, 48, 48, 55, 67, 32, 98, 114, 97, 99, 101, 114, 105, 103, 104, 116, 61, 48, 48, 55, 68, 32, 97, 115, 99, 105, 105, 116, 105, 108, 100, 101, 61, 48, 48, 55, 69, 32, 101, 120, 99, 108, 97, 109, 100, 111, 119, 110, 61, 48, 48, 65, 49]⟩ : ByteArray), (⟨#[99, 101, 110, 116, 61, 48, 48, 65, 50, 32, 115, 116, 101, 114, 108, 105, 110, 103, 61, 48, 48, 65, 51, 32, 99, 117, 114, 114, 101, 110, 99, 121, 61, 48, 48, 65, 52, 32, 121, 101, 110, 61, 48, 48, 65, 53, 32, 98, 114, 111, 107, 101, 110, 98, 97, 114, 61, 48, 48, 65, 54, 32, 115, 101, 99, 116, 105, 111, 110, 61, 48, 48, 65, 55]⟩ : ByteArray), (⟨#[100, 105, 101, 114, 101, 115, 105, 115, 61, 48, 48, 65, 56, 32, 99, 111, 112, 121, 114, 105, 103, 104, 116, 61, 48, 48, 65, 57, 32, 111, 114, 100, 102, 101, 109, 105, 110, 105, 110, 101, 61, 48, 48, 65, 65, 32, 103, 117, 105, 108, 108, 101, 109, 111, 116, 108, 101, 102, 116, 61, 48, 48, 65, 66, 32, 108, 111, 103, 105, 99, 97, 108, 110, 111, 116, 61, 48, 48, 65, 67, 32, 114, 101, 103, 105, 115, 116, 101, 114, 101, 100, 61, 48, 48, 65, 69]⟩ : ByteArray), (⟨#[109, 97, 99, 114, 111, 110, 61, 48, 48, 65, 70, 32, 100, 101, 103, 114, 101, 101, 61, 48, 48, 66, 48, 32, 112, 108, 117, 115, 109, 105, 110, 117, 115, 61, 48, 48, 66, 49, 32, 116, 119, 111, 115, 117, 112, 101, 114, 105, 111, 114, 61, 48, 48, 66, 50, 32, 116, 104, 114, 101, 101, 115, 117, 112, 101, 114, 105, 111, 114, 61, 48, 48, 66, 51, 32, 97, 99, 117, 116, 101, 61, 48, 48, 66, 52]⟩ : ByteArray), (⟨#[109, 117, 61, 48, 48, 66, 53, 32, 112, 97, 114, 97, 103, 114, 97, 112, 104, 61, 48, 48, 66, 54, 32, 112, 101, 114, 105, 111, 100, 99, 101, 110, 116, 101, 114, 101, 100, 61, 48, 48, 66, 55, 32, 99, 101, 100, 105, 108, 108, 97, 61, 48, 48, 66, 56, 32, 111, 110, 101, 115, 117, 112, 101, 114, 105, 111, 114, 61, 48, 48, 66, 57, 32, 111, 114, 100, 109, 97, 115, 99, 117, 108, 105, 110, 101, 61, 48, 48, 66, 65]⟩ : ByteArray), (⟨#[103, 117, 105, 108, 108, 101, 109, 111, 116, 114, 105, 103, 104, 116, 61, 48, 48, 66, 66, 32, 111, 110, 101, 113, 117, 97, 114, 116, 101, 114, 61, 48, 48, 66, 67, 32, 111, 110, 101, 104, 97, 108, 102, 61, 48, 48, 66, 68, 32, 116, 104, 114, 101, 101, 113, 117, 97, 114, 116, 101, 114, 115, 61, 48, 48, 66, 69, 32, 113, 117, 101, 115, 116, 105, 111, 110, 100, 111, 119, 110, 61, 48, 48, 66, 70, 32, 65, 103, 114, 97, 118, 101, 61, 48, 48, 67, 48]⟩ : ByteArray), (⟨#[65, 97, 99, 117, 116, 101, 61, 48, 48, 67, 49, 32, 65, 99, 105, 114, 99, 117, 109, 102, 108, 101, 120, 61, 48, 48, 67, 50, 32, 65, 116, 105, 108, 100, 101, 61, 48, 48, 67, 51, 32, 65, 100, 105, 101, 114, 101, 115, 105, 115, 61, 48, 48, 67, 52, 32, 65, 114, 105, 110, 103, 61, 48, 48, 67, 53, 32, 65, 69, 61, 48, 48, 67, 54]⟩ : ByteArray), (⟨#[67, 99, 101, 100, 105, 108, 108, 97, 61, 48, 48, 67, 55, 32, 69, 103, 114, 97, 118, 101, 61, 48, 48, 67, 56, 32, 69, 97, 99, 117, 116, 101, 61, 48, 48, 67, 57, 32, 69, 99, 105, 114, 99, 117, 109, 102, 108, 101, 120, 61, 48, 48, 67, 65, 32, 69, 100, 105, 101, 114, 101, 115, 105, 115, 61, 48, 48, 67, 66, 32, 73, 103, 114, 97, 118, 101, 61, 48, 48, 67, 67]⟩ : ByteArray), (⟨#[73, 97, 99, 117, 116, 101, 61, 48, 48, 67, 68, 32, 73, 99, 105, 114, 99, 117, 109, 102, 108, 101, 120, 61, 48, 48, 67, 69, 32, 73, 100, 105, 101, 114, 101, 115, 105, 115, 61, 48, 48, 67, 70, 32, 69, 116, 104, 61, 48, 48, 68, 48, 32, 78, 116, 105, 108, 100, 101, 61, 48, 48, 68, 49, 32, 79, 103, 114, 97, 118, 101, 61, 48, 48, 68, 50]⟩ : ByteArray), (⟨#[79, 97, 99, 117, 116, 101, 61, 48, 48, 68, 51, 32, 79, 99, 105, 114, 99, 117, 109, 102, 108, 101, 120, 61, 48, 48, 68, 52, 32, 79, 116, 105, 108, 100, 101, 61, 48, 48, 68, 53, 32, 79, 100, 105, 101, 114, 101, 115, 105, 115, 61, 48, 48, 68, 54, 32, 109, 117, 108, 116, 105, 112, 108, 121, 61, 48, 48, 68, 55, 32, 79, 115, 108, 97, 115, 104, 61, 48, 48, 68, 56]⟩ : ByteArray), (⟨#[85, 103, 114, 97, 118, 101, 61, 48, 48, 68, 57, 32, 85, 97, 99, 117, 116, 101, 61, 48, 48, 68, 65, 32, 85, 99, 105, 114, 99, 117, 109, 102, 108, 101, 120, 61, 48, 48, 68, 66, 32, 85, 100, 105, 101, 114, 101, 115, 105, 115, 61, 48, 48, 68, 67, 32, 89, 97, 99, 117, 116, 101, 61, 48, 48, 68, 68, 32, 84, 104, 111, 114, 110, 61, 48, 48, 68, 69]⟩ : ByteArray), (⟨#[103, 101, 114, 109, 97, 110, 100, 98, 108, 115, 61, 48, 48, 68, 70, 32, 97, 103, 114, 97, 118, 101, 61, 48, 48, 69, 48, 32, 97, 97, 99, 117, 116, 101, 61, 48, 48, 69, 49, 32, 97, 99, 105, 114, 99, 117, 109, 102, 108, 101, 120, 61, 48, 48, 69, 50, 32, 97, 116, 105, 108, 100, 101, 61, 48, 48, 69, 51, 32, 97, 100, 105, 101, 114, 101, 115, 105, 115, 61, 48, 48, 69, 52]⟩ : ByteArray), (⟨#[97, 114, 105, 110, 103, 61, 48, 48, 69, 53, 32, 97, 101, 61, 48, 48, 69, 54, 32, 99, 99, 101, 100, 105, 108, 108, 97, 61, 48, 48, 69, 55, 32, 101, 103, 114, 97, 118, 101, 61, 48, 48, 69, 56, 32, 101, 97, 99, 117, 116, 101, 61, 48, 48, 69, 57, 32, 101, 99, 105, 114, 99, 117, 109, 102, 108, 101, 120, 61, 48, 48, 69, 65]⟩ : ByteArray), (⟨#[101, 100, 105, 101, 114, 101, 115, 105, 115, 61, 48, 48, 69, 66, 32, 105, 103, 114, 97, 118, 101, 61, 48, 48, 69, 67, 32, 105, 97, 99, 117, 116, 101, 61, 48, 48, 69, 68, 32, 105, 99, 105, 114, 99, 117, 109, 102, 108, 101, 120, 61, 48, 48, 69, 69, 32, 105, 100, 105, 101, 114, 101, 115, 105, 115, 61, 48, 48, 69, 70, 32, 101, 116, 104, 61, 48, 48, 70, 48]⟩ : ByteArray), (⟨#[110, 116, 105, 108, 100, 101, 61, 48, 48, 70, 49, 32, 111, 103, 114, 97, 118, 101, 61, 48, 48, 70, 50, 32, 111, 97, 99, 117, 116, 101, 61, 48, 48, 70, 51, 32, 111, 99, 105, 114, 99, 117, 109, 102, 108, 101, 120, 61, 48, 48, 70, 52, 32, 111, 116, 105, 108, 100, 101, 61, 48, 48, 70, 53, 32, 111, 100, 105, 101, 114, 101, 115, 105, 115, 61, 48, 48, 70, 54]⟩ : ByteArray)] : List ByteArray))
set_option maxHeartbeats 8000000 in
set_option maxRecDepth 100000 in
theorem glyph_part1.calls  (r : List ByteArray) (w : World) (h : glyph_part1.f  = some r) :
  Calls Tryd.prog 32 #[] w fun e w' => ∃ v0_ : Value, e = .returned (v0_) ∧ Kd.R Kd.string 9 w' w.heap.size (fun _ => True) v0_ r ∧ Below w.heap.size w w' := by
 have HB := aM (Below.refl w.heap.size w)
 have Ny109 := aM (Option.some.inj (show some _ = some r from h)).symm
 clear h
 go_enter Tryd.func32, Tryd.ntmps32
 go_wp2_with (first | ((with_reducible refine gD 1 ?_); refine Kd.R_lit Kd.string _ 9 ?hg (N := 1) ?hd (xs := r) (inner := r.map Value.string) (ok := fun _ => True) (okp := fun _ => True) ?hr ?hp (fun _ hk => hk) trivial (Below.refl _ _) (Nat.le_refl _) (by rw [Ny109.out]; simp) ?_; (case hd => rfl); (case hg => rfl); (case hr => rw [Ny109.out]; simp only [List.map_cons, List.map_nil]; first | (go_simp; done) | (go_simp; rfl)); (case hp => exact repsS _ _ _ r); intro v110 w1 ho2 hb hg_ hnew_; clear hg_ hnew_; have HO111 := lK ho2; replace HB := sB hb; clear hb ho2))
 go_ret
 exact ⟨_, eQ, mQ HO111, bQ⟩
def glyph_part2.f  : Option (List ByteArray) := some (([(⟨#[100, 105, 118, 105, 100, 101, 61, 48, 48, 70, 55, 32, 111, 115, 108, 97, 115, 104, 61, 48, 48, 70, 56, 32, 117, 103, 114, 97, 118, 101, 61, 48, 48, 70, 57, 32, 117, 97, 99, 117, 116, 101, 61, 48, 48, 70, 65, 32, 117, 99, 105, 114, 99, 117, 109, 102, 108, 101, 120, 61, 48, 48, 70, 66, 32, 117, 100, 105, 101, 114, 101, 115, 105, 115, 61, 48, 48, 70, 67]⟩ : ByteArray), (⟨#[121, 97, 99, 117, 116, 101, 61, 48, 48, 70, 68, 32, 116, 104, 111, 114, 110, 61, 48, 48, 70, 69, 32, 121, 100, 105, 101, 114, 101, 115, 105, 115, 61, 48, 48, 70, 70, 32, 69, 117, 114, 111, 61, 50, 48, 65, 67, 32, 113, 117, 111, 116, 101, 115, 105, 110, 103, 108, 98, 97, 115, 101, 61, 50, 48, 49, 65, 32, 102, 108, 111, 114, 105, 110, 61, 48, 49, 57, 50]⟩ : ByteArray), (⟨#[113, 117, 111, 116, 101, 100, 98, 108, 98, 97, 115, 101, 61, 50, 48, 49, 69, 32, 101, 108, 108, 105, 112, 115, 105, 115, 61, 50, 48, 50, 54, 32, 100, 97, 103, 103, 101, 114, 61, 50, 48, 50, 48, 32, 100, 97, 103, 103, 101, 114, 100, 98, 108, 61, 50, 48, 50, 49, 32, 99, 105, 114, 99, 117, 109, 102, 108, 101, 120, 61, 48, 50, 67, 54, 32, 112, 101, 114, 116, 104, 111, 117, 115, 97, 110, 100, 61, 50, 48, 51, 48]⟩ : ByteArray), (⟨#[83, 99, 97, 114, 111, 110, 61, 48, 49, 54, 48, 32, 103, 117, 105, 108, 115, 105, 110, 103, 108, 108, 101, 102, 116, 61, 50, 48, 51, 57, 32, 79, 69, 61, 48, 49, 53, 50, 32, 90, 99, 97, 114, 111, 110, 61, 48, 49, 55, 68, 32, 113, 117, 111, 116, 101, 108, 101, 102, 116, 61, 50, 48, 49, 56, 32, 113, 117, 111, 116, 101, 114, 105, 103, 104, 116, 61, 50, 48, 49, 57]⟩ : ByteArray), (⟨#[113, 117, 111, 116, 101, 100, 98, 108, 108, 101, 102, 116, 61, 50, 48, 49, 67, 32, 113, 117, 111, 116, 101, 100, 98, 108, 114, 105, 103, 104, 116, 61, 50, 48, 49, 68, 32, 98, 117, 108, 108, 101, 116, 61, 50, 48, 50, 50, 32, 101, 110, 100, 97, 115, 104, 61, 50, 48, 49, 51, 32, 101, 109, 100, 97, 115, 104, 61, 50, 48, 49, 52, 32, 116, 105, 108, 100, 101, 61, 48, 50, 68, 67]⟩ : ByteArray), (⟨#[116, 114, 97, 100, 101, 109, 97, 114, 107, 61, 50, 49, 50, 50, 32, 115, 99, 97, 114, 111, 110, 61, 48, 49, 54, 49, 32, 103, 117, 105, 108, 115, 105, 110, 103, 108, 114, 105, 103, 104, 116, 61, 50, 48, 51, 65, 32, 111, 101, 61, 48, 49, 53, 51, 32, 122, 99, 97, 114, 111, 110, 61, 48, 49, 55, 69, 32, 89, 100, 105, 101, 114, 101, 115, 105, 115, 61, 48, 49, 55, 56]⟩ : ByteArray), (⟨#[102, 105, 61, 70, 66, 48, 49, 32, 102, 108, 61, 70, 66, 48, 50, 32, 102, 114, 97, 99, 116, 105, 111, 110, 61, 50, 48, 52, 52, 32, 100, 111, 116, 108, 101, 115, 115, 105, 61, 48, 49, 51, 49, 32, 76, 115, 108, 97, 115, 104, 61, 48, 49, 52, 49, 32, 108, 115, 108, 97, 115, 104, 61, 48, 49, 52, 50]⟩ : ByteArray), (⟨#[98, 114, 101, 118, 101, 61, 48, 50, 68, 56, 32, 99, 97, 114, 111, 110, 61, 48, 50, 67, 55, 32, 100, 111, 116, 97, 99, 99, 101, 110, 116, 61, 48, 50, 68, 57, 32, 104, 117, 110, 103, 97, 114, 117, 109, 108, 97, 117, 116, 61, 48, 50, 68, 68, 32, 111, 103, 111, 110, 101, 107, 61, 48, 50, 68, 66, 32, 114, 105, 110, 103, 61, 48, 50, 68, 65]⟩ : ByteArray), (⟨#[109, 105, 110, 117, 115, 61, 50, 50, 49, 50, 32, 110, 111, 116, 101, 113, 117, 97, 108, 61, 50, 50, 54, 48, 32, 105, 110, 102, 105, 110, 105, 116, 121, 61, 50, 50, 49, 69, 32, 108, 101, 115, 115, 101, 113, 117, 97, 108, 61, 50, 50, 54, 52, 32, 103, 114, 101, 97, 116, 101, 114, 101, 113, 117, 97, 108, 61, 50, 50, 54, 53, 32, 112, 97, 114, 116, 105, 97, 108, 100, 105, 102, 102, 61, 50, 50, 48, 50]⟩ : ByteArray), (⟨#[115, 117, 109, 109, 97, 116, 105, 111, 110, 61, 50, 50, 49, 49, 32, 112, 114, 111, 100, 117, 99, 116, 61, 50, 50, 48, 70, 32, 112, 105, 61, 48, 51, 67, 48, 32, 105, 110, 116, 101, 103, 114, 97, 108, 61, 50, 50, 50, 66, 32, 79, 109, 101, 103, 97, 61, 50, 49, 50, 54, 32, 114, 97, 100, 105, 99, 97, 108, 61, 50, 50, 49, 65]⟩ : ByteArray), (⟨#[97, 112, 112, 114, 111, 120, 101, 113, 117, 97, 108, 61, 50, 50, 52, 56, 32, 68, 101, 108, 116, 97, 61, 50, 50, 48, 54, 32, 108, 111, 122, 101, 110, 103, 101, 61, 50, 53, 67, 65, 32, 97, 112, 112, 108, 101, 61, 70, 56, 70, 70, 32, 65, 108, 112, 104, 97, 61, 48, 51, 57, 49, 32, 66, 101, 116, 97, 61, 48, 51, 57, 50]⟩ : ByteArray), (⟨#[71, 97, 109, 109, 97, 61, 48, 51, 57, 51, 32, 69, 112, 115, 105, 108, 111, 110, 61, 48, 51, 57, 53, 32, 90, 101, 116, 97, 61, 48, 51, 57, 54, 32, 69, 116, 97, 61, 48, 51, 57, 55, 32, 84, 104, 101, 116, 97, 61, 48, 51, 57, 56, 32, 73, 111, 116, 97, 61, 48, 51, 57, 57]⟩ : ByteArray), (⟨#[75, 97, 112, 112, 97, 61, 48, 51, 57, 65, 32, 76, 97, 109, 98, 100, 97, 61, 48, 51, 57, 66, 32, 77, 117, 61, 48, 51, 57, 67, 32, 78, 117, 61, 48, 51, 57, 68, 32, 88, 105, 61, 48, 51, 57, 69, 32, 79, 109, 105, 99, 114, 111, 110, 61, 48, 51, 57, 70]⟩ : ByteArray), (⟨#[80, 105, 61, 48, 51, 65, 48, 32, 82, 104, 111, 61, 48, 51, 65, 49, 32, 83, 105, 103, 109, 97, 61, 48, 51, 65, 51, 32, 84, 97, 117, 61, 48, 51, 65, 52, 32, 85, 112, 115, 105, 108, 111, 110, 61, 48, 51, 65, 53, 32, 80, 104, 105, 61, 48, 51, 65, 54]⟩ : ByteArray), (⟨#[67, 104, 105, 61, 48, 51, 65, 55, 32, 80, 115, 105, 61, 48, 51, 65, 56, 32, 97, 108, 112, 104, 97, 61, 48, 51, 66, 49, 32, 98, 101, 116, 97, 61, 48, 51, 66, 50, 32, 103, 97, 109, 109, 97, 61, 48, 51, 66, 51, 32, 100, 101, 108, 116, 97, 61, 48, 51, 66, 52]⟩ : ByteArray), (⟨#[101, 112, 115, 105, 108, 111, 110, 61, 48, 51, 66, 53, 32, 122, 101, 116, 97, 61, 48, 51, 66, 54, 32, 101, 116, 97, 61, 48, 51, 66, 55, 32, 116, 104, 101, 116, 97, 61, 48, 51, 66, 56, 32, 105, 111, 116, 97, 61, 48, 51, 66, 57, 32, 107, 97, 112, 112, 97, 61, 48, 51, 66, 65]⟩ : ByteArray), (⟨#[108, 97, 109, 98, 100, 97, 61, 48, 51, 66, 66, 32, 110, 117, 61, 48, 51, 66, 68, 32, 120, 105, 61, 48, 51, 66, 69, 32, 111, 109, 105, 99, 114, 111, 110, 61, 48, 51, 66, 70, 32, 114, 104, 111, 61, 48, 51, 67, 49, 32, 115, 105, 103, 109, 97, 49, 61, 48, 51, 67, 50]⟩ : ByteArray), (⟨#[115, 105, 103, 109, 97, 61, 48, 51, 67, 51, 32, 116, 97, 117, 61, 48, 51, 67, 52, 32, 117, 112, 115, 105, 108, 111, 110, 61, 48, 51, 67, 53, 32, 112, 104, 105, 61, 48, 51, 67, 54, 32, 99, 104, 105, 61, 48, 51, 67, 55, 32, 112, 115, 105, 61, 48, 51, 67, 56]⟩ : ByteArray), (⟨#[111, 109, 101, 103, 97, 61, 48, 51, 67, 57, 32, 116, 104, 101, 116, 97, 49, 61, 48, 51, 68, 49, 32, 85, 112, 115, 105, 108, 111, 110, 49, 61, 48, 51, 68, 50, 32, 112, 104, 105, 49, 61, 48, 51, 68, 53, 32, 111, 109, 101, 103, 97, 49, 61, 48, 51, 68, 54, 32, 117, 110, 105, 118, 101, 114, 115, 97, 108, 61, 50, 50, 48, 48]⟩ : ByteArray), (⟨#[101, 120, 105, 115, 116, 101, 110, 116, 105, 97, 108, 61, 50, 50, 48, 51, 32, 115, 117, 99, 104, 116, 104, 97, 116, 61, 50, 50, 48, 66, 32, 97, 115, 116, 101, 114, 105, 115, 107, 109, 97, 116, 104, 61, 50, 50, 49, 55, 32, 99, 111, 110, 103, 114, 117, 101, 110, 116, 61, 50, 50, 52, 53, 32, 116, 104, 101, 114, 101, 102, 111, 114, 101, 61, 50, 50, 51, 52, 32, 112, 101, 114, 112, 101, 110, 100, 105, 99, 117, 108, 97, 114, 61, 50, 50, 65, 53]⟩ : ByteArray), (⟨#[115, 105, 109, 105, 108, 97, 114, 61, 50, 50, 51, 67, 32, 109, 105, 110, 117, 116, 101, 61, 50, 48, 51, 50, 32, 99, 108, 117, 98, 61, 50, 54, 54, 51, 32, 100, 105, 97, 109, 111, 110, 100, 61, 50, 54, 54, 54, 32, 104, 101, 97, 114, 116, 61, 50, 54, 54, 53, 32, 115, 112, 97, 100, 101, 61, 50, 54, 54, 48]⟩ : ByteArray), (⟨#[97, 114, 114, 111, 119, 98, 111, 116, 104, 61, 50, 49, 57, 52, 32, 97, 114, 114, 111, 119, 108, 101, 102, 116, 61, 50, 49, 57, 48, 32, 97, 114, 114, 111, 119, 117, 112, 61, 50, 49, 57, 49, 32, 97, 114, 114, 111, 119, 114, 105, 103, 104, 116, 61, 50, 49, 57, 50, 32, 97, 114, 114, 111, 119, 100, 111, 119, 110, 61, 50, 49, 57, 51, 32, 115, 101, 99, 111, 110, 100, 61, 50, 48, 51, 51]⟩ : ByteArray), (⟨#[112, 114, 111, 112, 111, 114, 116, 105, 111, 110, 97, 108, 61, 50, 50, 49, 68, 32, 101, 113, 117, 105, 118, 97, 108, 101, 110, 99, 101, 61, 50, 50, 54, 49, 32, 97, 108, 101, 112, 104, 61, 50, 49, 51, 53, 32, 73, 102, 114, 97, 107, 116, 117, 114, 61, 50, 49, 49, 49, 32, 82, 102, 114, 97, 107, 116, 117, 114, 61, 50, 49, 49, 67, 32, 119, 101, 105, 101, 114, 115, 116, 114, 97, 115, 115, 61, 50, 49, 49, 56]⟩ : ByteArray), (⟨#[99, 105, 114, 99, 108, 101, 109, 117, 108, 116, 105, 112, 108, 121, 61, 50, 50, 57, 55, 32, 99, 105, 114, 99, 108, 101, 112, 108, 117, 115, 61, 50, 50, 57, 53, 32, 101, 109, 112, 116, 121, 115, 101, 116, 61, 50, 50, 48, 53, 32, 105, 110, 116, 101, 114, 115, 101, 99, 116, 105, 111, 110, 61, 50, 50, 50, 57, 32, 117, 110, 105, 111, 110, 61, 50, 50, 50, 65, 32, 112, 114, 111, 112, 101, 114, 115, 117, 112, 101, 114, 115, 101, 116, 61, 50, 50, 56, 51]⟩ : ByteArray), (⟨#[114, 101, 102, 108, 101, 120, 115, 117, 112, 101, 114, 115, 101, 116, 61, 50, 50, 56, 55, 32, 110, 111, 116, 115, 117, 98, 115, 101, 116, 61, 50, 50, 56, 52, 32, 112, 114, 111, 112, 101, 114, 115, 117, 98, 115, 101, 116, 61, 50, 50, 56, 50, 32, 114, 101, 102, 108, 101, 120, 115, 117, 98, 115, 101, 116, 61, 50, 50, 56, 54, 32, 101, 108, 101, 109, 101, 110, 116, 61, 50, 50, 48, 56, 32, 110, 111, 116, 101, 108, 101, 109, 101, 110, 116, 61, 50, 50, 48, 57]⟩ : ByteArray), (⟨#[97, 110, 103, 108, 101, 61, 50, 50, 50, 48, 32, 103, 114, 97, 100, 105, 101, 110, 116, 61, 50, 50, 48, 55, 32, 100, 111, 116, 109, 97, 116, 104, 61, 50, 50, 67, 53, 32, 108, 111, 103, 105, 99, 97, 108, 97, 110, 100, 61, 50, 50, 50, 55, 32, 108, 111, 103, 105, 99, 97, 108, 111, 114, 61, 50, 50, 50, 56, 32, 97, 114, 114, 111, 119, 100, 98, 108, 98, 111, 116, 104, 61, 50, 49, 68, 52]⟩ : ByteArray), (⟨#[97, 114, 114, 111, 119, 100, 98, 108, 108, 101, 102, 116, 61, 50, 49, 68, 48, 32, 97, 114, 114, 111, 119, 100, 98, 108, 117, 112, 61, 50, 49, 68, 49, 32, 97, 114, 114, 111, 119, 100, 98, 108, 114, 105, 103, 104, 116, 61, 50, 49, 68, 50, 32, 97, 114, 114, 111, 119, 100, 98, 108, 100, 111, 119, 110, 61, 50, 49, 68, 51, 32, 97, 110, 103, 108, 101, 108, 101, 102, 116, 61, 50, 51, 50, 57, 32, 97, 110, 103, 108, 101, 114, 105, 103, 104, 116, 61, 50, 51, 50, 65]⟩ : ByteArray), (⟨#[100, 97, 108, 101, 116, 104, 97, 116, 97, 102, 112, 97, 116, 97, 104, 61, 48, 53, 68, 51, 44, 48, 53, 66, 50, 32, 102, 102, 61, 70, 66, 48, 48, 32, 102, 102, 105, 61, 70, 66, 48, 51, 32, 102, 102, 108, 61, 70, 66, 48, 52, 32, 65, 109, 97, 99, 114, 111, 110, 61, 48, 49, 48, 48, 32, 97, 109, 97, 99, 114, 111, 110, 61, 48, 49, 48, 49]⟩ : ByteArray), (⟨#[65, 98, 114, 101, 118, 101, 61, 48, 49, 48, 50, 32, 97, 98, 114, 101, 118, 101, 61, 48, 49, 48, 51, 32, 76, 99, 111, 109, 109, 97, 97, 99, 99, 101, 110, 116, 61, 48, 49, 51, 66]⟩ : ByteArray)] : List ByteArray))
set_option maxHeartbeats 8000000 in
set_option maxRecDepth 100000 in
theorem glyph_part2.calls  (r : List ByteArray) (w : World) (h : glyph_part2.f  = some r) :
  Calls Tryd.prog 33 #[] w fun e w' => ∃ v0_ : Value, e = .returned (v0_) ∧ Kd.R Kd.string 9 w' w.heap.size (fun _ => True) v0_ r ∧ Below w.heap.size w w' := by
 have HB := aM (Below.refl w.heap.size w)
 have Ny112 := aM (Option.some.inj (show some _ = some r from h)).symm
 clear h
 go_enter Tryd.func33, Tryd.ntmps33
 go_wp2_with (first | ((with_reducible refine gD 1 ?_); refine Kd.R_lit Kd.string _ 9 ?hg (N := 1) ?hd (xs := r) (inner := r.map Value.string) (ok := fun _ => True) (okp := fun _ => True) ?hr ?hp (fun _ hk => hk) trivial (Below.refl _ _) (Nat.le_refl _) (by rw [Ny112.out]; simp) ?_; (case hd => rfl); (case hg => rfl); (case hr => rw [Ny112.out]; simp only [List.map_cons, List.map_nil]; first | (go_simp; done) | (go_simp; rfl)); (case hp => exact repsS _ _ _ r); intro v113 w1 ho2 hb hg_ hnew_; clear hg_ hnew_; have HO114 := lK ho2; replace HB := sB hb; clear hb ho2))
 go_ret
 exact ⟨_, eQ, mQ HO114, bQ⟩
def glyph_list.f (k : Nat)  : Option (ByteArray) := (glyph_part1.f).bind fun t115 => ((glyph_part2.f).bind fun t118 => ((slices_Concat_string_string.f k (([t115, t118] : List (List ByteArray)))).bind fun t124 => ((strings_Join.f t124 (⟨#[32]⟩ : ByteArray)).bind fun t127 => (if 1 + t127.size ≤ 9223372036854775807 then (if ((⟨#[32]⟩ : ByteArray) ++ t127).size + 1 ≤ 9223372036854775807 then (some (((⟨#[32]⟩ : ByteArray) ++ t127) ++ (⟨#[32]⟩ : ByteArray))) else (none)) else (none)))))
theorem glyph_list.mono : ∀ k, LeO (glyph_list.f k ) (glyph_list.f (k + 1) ) := by
 intro  k
 unfold glyph_list.f
 repeat' first
   | (with_reducible exact slices_Concat_string_string.mono _ _)
   | (with_reducible exact LeO.refl _)
   | (with_reducible exact LeO.none _)
   | (with_reducible refine LeO.ite ?_ ?_)
   | (with_reducible refine LeO.bind ?_ (fun _ => ?_))
   | exact slices_Concat_string_string.mono _ _
   | exact LeO.none _
   | refine LeO.ite ?_ ?_
   | refine LeO.bind ?_ (fun _ => ?_)
set_option maxHeartbeats 8000000 in
set_option maxRecDepth 100000 in
theorem glyph_list.calls (k : Nat)  (r : ByteArray) (w : World) (h : glyph_list.f k  = some r) :
  Calls Tryd.prog 19 #[] w fun e w' => e = .returned (.string r) ∧ Below w.heap.size w w' := by
 have HB := aM (Below.refl w.heap.size w)
 have H : ((glyph_part1.f).bind fun t115 => ((glyph_part2.f).bind fun t118 => ((slices_Concat_string_string.f k (([t115, t118] : List (List ByteArray)))).bind fun t124 => ((strings_Join.f t124 (⟨#[32]⟩ : ByteArray)).bind fun t127 => (if 1 + t127.size ≤ 9223372036854775807 then (if ((⟨#[32]⟩ : ByteArray) ++ t127).size + 1 ≤ 9223372036854775807 then (some (((⟨#[32]⟩ : ByteArray) ++ t127) ++ (⟨#[32]⟩ : ByteArray))) else (none)) else (none)))))) = some r := h
 clear h
 replace H := bS H
 obtain ⟨t115, A1, H⟩ := H
 try dsimp only at H
 replace H := bS H
 obtain ⟨t118, A2, H⟩ := H
 try dsimp only at H
 obtain ⟨y121, hy121⟩ : ∃ y_ : List (List ByteArray), y_ = (([t115, t118] : List (List ByteArray))) := ⟨_, rfl⟩
 replace H : ((slices_Concat_string_string.f k y121).bind fun t124 => ((strings_Join.f t124 (⟨#[32]⟩ : ByteArray)).bind fun t127 => (if 1 + t127.size ≤ 9223372036854775807 then (if ((⟨#[32]⟩ : ByteArray) ++ t127).size + 1 ≤ 9223372036854775807 then (some (((⟨#[32]⟩ : ByteArray) ++ t127) ++ (⟨#[32]⟩ : ByteArray))) else (none)) else (none)))) = some r := by first | (rw [hy121]; with_reducible exact H) | (have H2_ := (Option.bind_some _ _).symm.trans H; rw [hy121]; with_reducible exact H2_) | (have H2_ := (Option.bind_some _ _).symm.trans H; with_reducible exact H2_) | with_reducible exact H | (rw [hy121]; exact H) | exact H
 have Ny121 := aM hy121
 clear hy121
 replace H := bS H
 obtain ⟨t124, A3, H⟩ := H
 try dsimp only at H
 replace H := bS H
 obtain ⟨t127, A4, H⟩ := H
 try dsimp only at H
 refine iNc H ?_ ?_<;>clear H<;>intro H c5
 rotate_left
 ·exact absurd H (by simp)
 have c5b0 := eq_true c5
 have c5b1 : decide (1 + t127.size ≤ 9223372036854775807) = true := decide_eq_true c5
 try have c5b2 : (9223372036854775807 < 1 + t127.size) = False := eq_false (Nat.not_lt.2 c5)
 refine iNc H ?_ ?_<;>clear H<;>intro H c6
 rotate_left
 ·exact absurd H (by simp)
 have c6b0 := eq_true c6
 have c6b1 : decide (((⟨#[32]⟩ : ByteArray) ++ t127).size + 1 ≤ 9223372036854775807) = true := decide_eq_true c6
 try have c6b2 : (9223372036854775807 < ((⟨#[32]⟩ : ByteArray) ++ t127).size + 1) = False := eq_false (Nat.not_lt.2 c6)
 try have c6b9 : (9223372036854775807 < (1 + t127.size) + 1) = False := eq_false (Nat.not_lt.2 (by have h_ := c6; (repeat rw [ByteArray.size_append] at h_); exact h_))
 obtain rfl := Option.some.inj H
 go_enter Tryd.func19, Tryd.ntmps19
 go_wp2_with (first | ((with_reducible refine gC 32 ?_); refine gL (some 1) Tryd.func32 #[] ?_; (with_reducible refine (glyph_part1.calls  t115 _ A1.out).mono ?_); rintro e w7 ⟨v116, rfl, ho0, hb⟩; refine ⟨_, rfl, ?_⟩; have HO117 := lK ho0; replace HB := sB hb; clear hb ho0) | ((with_reducible refine gC 33 ?_); refine gL (some 2) Tryd.func33 #[] ?_; (with_reducible refine (glyph_part2.calls  t118 _ A2.out).mono ?_); rintro e w8 ⟨v119, rfl, ho0, hb⟩; refine ⟨_, rfl, ?_⟩; have HO120 := nK ho0 HO117; replace HO117 := eK HO117 ho0 hb; replace HB := sB hb; clear hb ho0; obtain ⟨Ao9, co9, eo9⟩ := Kd.R_slice HO117.out; subst eo9; obtain ⟨Ao10, co10, eo10⟩ := Kd.R_slice HO120.out; subst eo10) | ((with_reducible refine gD 3 ?_); refine Kd.N_lit (Kd.slice 9 Kd.string) _ 28 ?hg (N' := 3) ?hd (xs := ([t115, t118] : List (List ByteArray))) (inner := [.slice Ao9 t115.length co9, .slice Ao10 t118.length co10]) (ok := (fun _ => True)) (okp := (fun _ => True)) ?hr ?hp (fun _ hk => hk) ((show ∀ k_, w8.heap.size ≤ k_ → (fun _ => True) k_ from fun k_ hk => trivial) _ (Nat.le_refl _)) (Below.refl _ _) (Nat.le_refl _) (by simp) ?_; (case hd => rfl); (case hg => rfl); (case hr => first | (go_simp; done) | (go_simp; rfl)); (case hp => exact (Reps.one (show Kd.FK (Kd.slice 9 Kd.string) _ _ t115 [.slice Ao9 t115.length co9] from (Kd.FK_slice_mk (Kd.R_reads' (Kd.R_mono (ok' := (fun _ => True)) (HO117.out) (fun k_ hk => trivial))).2.1 (Kd.R_F (Kd.R_mono (ok' := (fun _ => True)) (HO117.out) (fun k_ hk => trivial))))) (Reps.one (show Kd.FK (Kd.slice 9 Kd.string) _ _ t118 [.slice Ao10 t118.length co10] from (Kd.FK_slice_mk (Kd.R_reads' (Kd.R_mono (ok' := (fun _ => True)) (HO120.out) (fun k_ hk => trivial))).2.1 (Kd.R_F (Kd.R_mono (ok' := (fun _ => True)) (HO120.out) (fun k_ hk => trivial))))) (Reps.none _ _)))); intro v122 w11 ho12 hb hg_ hnew_; clear hg_ hnew_; (first | rw [← Ny121.out] at ho12 | (simp only [Int.reduceToNat] at ho12; rw [← Ny121.out] at ho12)); have n0_ := aM (Kd.N_lower ho12 (below_size bQ)); have n1_ := sB hb; clear HB; clear HO117; clear HO120; have HO123 := n0_; have HB := n1_; clear n0_ n1_; clear hb ho12; obtain ⟨Ao13, co13, eo13⟩ := Kd.N_slice HO123.out; subst eo13) | ((with_reducible refine gC 31 ?_); refine gL (some 4) Tryd.func31 #[.slice Ao13 y121.length co13] ?_; (with_reducible refine (slices_Concat_string_string.calls k _ _ y121 t124 _ ?side1 ?side2 A3.out).mono ?_); (case side1 => repeat (first | exact (Kd.N_reads' HO123.out).2.2 | (with_reducible first|refine Kd.C_alloc ?_ _|refine Kd.C_drewN ?_ _|refine Kd.C_drew ?_))); (case side2 => exact (Kd.N_reads' HO123.out).2.1); rintro e w14 ⟨v125, rfl, ho0, hb⟩; refine ⟨_, rfl, ?_⟩; replace HO123 := aM (Kd.N_elder' (by (with_reducible repeat (first | apply Kd.N_alloc | apply Kd.N_drewN | apply Kd.N_drew)); exact HO123.out) (Kd.R_base ho0) hb); have HO126 := lK ho0; replace HB := sB hb; clear hb ho0; obtain ⟨Ao15, co15, eo15⟩ := Kd.R_slice HO126.out; subst eo15) | ((with_reducible refine gC 30 ?_); refine gL (some 5) Tryd.func30 #[.slice Ao15 t124.length co15, .string (⟨#[32]⟩ : ByteArray)] ?_; (with_reducible refine cB (strings_Join.calls _ _ t124 (⟨#[32]⟩ : ByteArray) t127 _ ?side1 ?side2 A4.out) ?_); (case side1 => exact cQ HO126); (case side2 => exact (Kd.R_reads' HO126.out).2.1); intro w16 hb; replace HO123 := aM (Kd.N_below (by (with_reducible repeat (first | apply Kd.N_alloc | apply Kd.N_drewN | apply Kd.N_drew)); exact HO123.out) hb); replace HO126 := rK HO126 hb; replace HB := sB hb; clear hb))
 go_ret
 exact ⟨eQ, bQ⟩
end Go.Proofs.YtdbadfcekomomaaDoor.M
end
section
namespace Go.Proofs.YtdbadfcekomomaaDoor.M
open Go.RowKit Go.Proofs.YtdbadfcekomomaaDoorW.PrintWords
set_option linter.unusedVariables false
def isAscii (l : List UInt8) : Bool := l.all fun b => decide (b.toNat < 128)
def fieldsB (a0 : ByteArray) : List ByteArray := (Lib.fields a0.data.toList).map fun l => ⟨l.toArray⟩
def strings_Fields.f (a0 : ByteArray) : Option (List ByteArray) := if a0.size < 4294967281 ∧ isAscii a0.data.toList = true ∧ (fieldsB a0).length ≤ 8796093022208 then some (fieldsB a0) else none
theorem strings_Fields.calls (a0 : ByteArray) (r : List ByteArray) (w : World) (hG : GW w) (h : strings_Fields.f a0 = some r) :
  Calls Tryd.prog 23 #[.string a0] w fun e w' => ∃ v0_ : Value, e = .returned (v0_) ∧ Kd.R Kd.string 9 w' w.heap.size (fun _ => True) v0_ r ∧ Below w.heap.size w w' := by
 unfold strings_Fields.f at h
 split at h
 case isFalse => cases h
 rename_i hb
 obtain rfl := Option.some.inj h
 obtain ⟨hb1, hb2, hb3⟩ := hb
 have hl : (fieldsB a0).length = (Lib.fields a0.data.toList).length := by simp [fieldsB]
 refine (Tryd.strings_Fields a0 w hb1 ?_ hG.space).mono ?_
 ·intro j b hj
  have := List.all_eq_true.1 hb2 b (List.mem_of_getElem? hj)
  simpa using this
 ·rintro e w' ⟨rfl, rfl⟩
  exact ⟨_, rfl, strings_fresh w (fieldsB a0) _ _ _ hl (Nat.le_refl _) (by unfold maxLen; omega) (by simp) (by rw [List.take_of_length_le (by simp)]; simp [fieldsB]), below_alloc (Below.refl _ _) _⟩
end Go.Proofs.YtdbadfcekomomaaDoor.M
end
section
namespace Go.Proofs.YtdbadfcekomomaaDoor.M
open Go.RowKit Go.Proofs.YtdbadfcekomomaaDoorW.PrintWords Go.Proofs.YtdbadfcekomomaaDoorW.PrintLast Go.Proofs.YtdbadfcekomomaaDoorW.PrintMore
attribute [local go_sem] max2_int min2_int max_two min_two max_three min_three max_four min_four
set_option linter.unusedVariables false
set_option linter.unusedSimpArgs false
def glyph_Names.l0 : Nat → List ByteArray → List ByteArray → Int → Int → Option (List ByteArray)
 | 0, _, _, _, _ => none
 | k + 1, x1, x8, x9, x10 => if x10 < x9 then (if 0 ≤ x10 then (if x10 < (x8.length : Int) then ((strings_Cut.f (rdOf ByteArray.empty x8 x10) (⟨#[61]⟩ : ByteArray)).bind fun bt156 => (if x1.length < 8796093022208 then (glyph_Names.l0 k (x1 ++ [bt156.1]) x8 x9 (wrap64 (x10 + 1))) else (none))) else (none)) else (none)) else (some x1)
def glyph_Names.f (k : Nat)  : Option (List ByteArray) := (glyph_list.f k).bind fun t151 => ((strings_Fields.f t151).bind fun t152 => (glyph_Names.l0 k ([] : List ByteArray) t152 (t152.length : Int) 0))
theorem glyph_Names.mono_l : ∀ k, (∀ y0 y1 y2 y3, LeO (glyph_Names.l0 k y0 y1 y2 y3) (glyph_Names.l0 (k + 1) y0 y1 y2 y3))
 | 0 => fun _ _ _ _ r h => by simp [glyph_Names.l0] at h
 | k + 1 => by
  have ih0 := glyph_Names.mono_l k
  ·intro y0 y1 y2 y3
   unfold glyph_Names.l0
   repeat' first
   | (with_reducible exact ih0 _ _ _ _)
   | (with_reducible exact glyph_list.mono _)
   | (with_reducible exact LeO.refl _)
   | (with_reducible exact LeO.none _)
   | (with_reducible refine LeO.ite ?_ ?_)
   | (with_reducible refine LeO.bind ?_ (fun _ => ?_))
   | exact ih0 _ _ _ _
   | exact glyph_list.mono _
   | exact LeO.none _
   | refine LeO.ite ?_ ?_
   | refine LeO.bind ?_ (fun _ => ?_)
theorem glyph_Names.mono : ∀ k, LeO (glyph_Names.f k ) (glyph_Names.f (k + 1) ) := by
 intro  k
 have ih0 := glyph_Names.mono_l k
 unfold glyph_Names.f
 repeat' first
   | (with_reducible exact ih0 _ _ _ _)
   | (with_reducible exact glyph_list.mono _)
   | (with_reducible exact LeO.refl _)
   | (with_reducible exact LeO.none _)
   | (with_reducible refine LeO.ite ?_ ?_)
   | (with_reducible refine LeO.bind ?_ (fun _ => ?_))
   | exact ih0 _ _ _ _
   | exact glyph_list.mono _
   | exact LeO.none _
   | refine LeO.ite ?_ ?_
   | refine LeO.bind ?_ (fun _ => ?_)
set_option maxHeartbeats 8000000 in
set_option maxRecDepth 100000 in
theorem glyph_Names.calls (k : Nat)  (r : List ByteArray) (w : World) (hG : GW w) (h : glyph_Names.f k  = some r) :
  Calls Tryd.prog 11 #[] w fun e w' => ∃ v0_ : Value, e = .returned (v0_) ∧ Kd.R Kd.string 9 w' w.heap.size (fun _ => True) v0_ r ∧ Below w.heap.size w w' := by
 have HG := aM hG
 clear hG
 have HB := aM (Below.refl w.heap.size w)
 have H : ((glyph_list.f k).bind fun t151 => ((strings_Fields.f t151).bind fun t152 => (glyph_Names.l0 k ([] : List ByteArray) t152 (t152.length : Int) 0))) = some r := h
 clear h
 replace H := bS H
 obtain ⟨t151, A1, H⟩ := H
 try dsimp only at H
 replace H := bS H
 obtain ⟨t152, A2, H⟩ := H
 try dsimp only at H
 have H' := aM H
 clear H
 go_enter Tryd.func11, Tryd.ntmps11
 go_wp2_with (first | ((with_reducible refine gC 19 ?_); refine gL (some 7) Tryd.func19 #[] ?_; (with_reducible refine cB (glyph_list.calls k  t151 _ A1.out) ?_); intro w3 hb; replace HB := sB hb; clear hb) | ((with_reducible refine gC 23 ?_); refine gL (some 8) Tryd.func23 #[.string t151] ?_; (with_reducible refine (strings_Fields.calls t151 t152 _ ?side1 A2.out).mono ?_); (case side1 => exact gQ HG.out); rintro e w4 ⟨v153, rfl, ho0, hb⟩; refine ⟨_, rfl, ?_⟩; have HO154 := lK ho0; replace HB := sB hb; clear hb ho0; obtain ⟨Ao5, co5, eo5⟩ := Kd.R_slice HO154.out; subst eo5))
 go_loopg [1, 10] k (fun kq v1 v10 w' => ∃ (x1_1 : List ByteArray) (x10_1 : Int), v10 = .int .i64 x10_1 ∧ Aside0 (glyph_Names.l0 kq x1_1 t152 (t152.length : Int) x10_1 = some r) ∧ Aside0 (kq ≤ k) ∧ Aside0 (Kd.R Kd.string 9 w' w.heap.size (fun k_ => some k_ ≠ ((.slice Ao5 t152.length co5) : Value).ownBlock) v1 x1_1) ∧ Aside0 (Kd.R Kd.string 9 w' w.heap.size (fun k_ => some k_ ≠ (v1 : Value).ownBlock) (.slice Ao5 t152.length co5) t152) ∧ Aside0 (Below w.heap.size w w'))
 case atStart => exact ⟨(([] : List ByteArray)), (0), vQ, H', ⟨Nat.le_refl _⟩, ⟨by first | exact Kd.R_nil _ _ _ _ _ | exact Kd.N_nil _ _ _ _ _ | exact Kd.V_nil _ _ _ _ _ | exact Kd.Q_nil _ _ _ _ _ | exact Kd.S_nil _ _ _ _ _⟩, ⟨by (with_reducible repeat first|apply rA|apply rD|apply r1); exact Kd.R_mono HO154.out (fun _ hk => (by simp [Value.ownBlock]))⟩, ⟨bQ⟩⟩
 case round =>
  clear H'
  try clear c1
  try clear c2
  try clear p2
  obtain ⟨x1_1, x10_1, rfl, HA, HK1, HO_1, HO_8, HB⟩ := hrel
  cases gk with
  | zero => exact absurd HA.out (by simp [glyph_Names.l0])
  | succ k1 =>
   have H := HA.out
   clear HA
   simp only [glyph_Names.l0] at H
   refine iD H ?_ ?_<;>clear H<;>intro H c6b0
   rotate_left
   ·obtain rfl := Option.some.inj H
    go_wp2
    go_ret
    exact ⟨_, eQ, by (with_reducible repeat first|apply rA|apply rD|apply r1); exact Kd.R_mono HO_1.out (fun _ hk => trivial), bQ⟩
   refine iD H ?_ ?_<;>clear H<;>intro H c7b0
   rotate_left
   ·exact absurd H (by simp)
   refine iD H ?_ ?_<;>clear H<;>intro H c8b0
   rotate_left
   ·exact absurd H (by simp)
   replace H := bS H
   obtain ⟨⟨t156, t157, t158⟩, A9, H⟩ := H
   try dsimp only at H
   refine iNc H ?_ ?_<;>clear H<;>intro H c10
   rotate_left
   ·exact absurd H (by simp)
   have LMc10 := aM c10
   clear c10
   obtain ⟨y159, hy159⟩ : ∃ y_ : List ByteArray, y_ = (x1_1 ++ [t156]) := ⟨_, rfl⟩
   replace H : (glyph_Names.l0 k1 y159 t152 (t152.length : Int) (wrap64 (x10_1 + 1))) = some r := by first | (rw [hy159]; with_reducible exact H) | (have H2_ := (Option.bind_some _ _).symm.trans H; rw [hy159]; with_reducible exact H2_) | (have H2_ := (Option.bind_some _ _).symm.trans H; with_reducible exact H2_) | with_reducible exact H | (rw [hy159]; exact H) | exact H
   have Ny159 := aM hy159
   clear hy159
   have H' := aM H
   clear H
   have p155 : 0 ≤ (x10_1 : Int) := of_decide_eq_true hQ
   have q155 : x10_1 < (t152.length : Int) := of_decide_eq_true hQ
   obtain ⟨ad155, e155, hx155_0⟩ := Kd.at_string (Kd.R_reads' HO_8.out).2.2 x10_1 p155 q155
   cases e155
   replace p155 := eq_true p155
   replace q155 := eq_true q155
   go_wp2_with (first | ((with_reducible refine gC 18 ?_); refine gL (some 16) Tryd.func18 #[.string (rdOf ByteArray.empty t152 x10_1), .string (⟨#[61]⟩ : ByteArray)] ?_; (with_reducible refine cB (strings_Cut.calls (rdOf ByteArray.empty t152 x10_1) (⟨#[61]⟩ : ByteArray) t156 t157 t158 _ ?side1 A9.out) ?_); (case side1 => exact gQ HG.out); intro w11 hb; replace HO_1 := rK HO_1 hb; replace HO_8 := rK HO_8 hb; replace HB := sB hb; clear hb) | ((with_reducible refine gate_builtin (b := .append) (xs := #[.tmp 20, .tmp 22]) rfl ?_); at_builtin; refine Kd.R_append Kd.string (w0 := w) w.heap.size rfl (.tmp 20) (.tmp 22) 28 9 (.string ⟨#[]⟩) 16 rfl Tryd.underlying28 info9 rfl (by decide) (by omega) u1 x1_1 t156 [.string t156] (fun k_ => some k_ ≠ (.slice (some ad155) t152.length co5 : Value).ownBlock) (fun _ => False) rfl rfl ?aP (fun _ hk => hk.elim) ?aF ?aO ?aB ?aS ?aL ?_; (case aP => exact rfl); (case aB => exact bQ); (case aF => exact (fun k_ hk => Kd.fresh' (Kd.R_lt (mQ HO_8)) k_ hk)); (case aO => exact (mQ HO_1)); (case aS => exact (below_size bQ)); (case aL => have := LMc10.out; omega); intro v160 w12 ho hb hg hat; rw [← Ny159.out] at ho; have n0_ := aM (Kd.R_after (ok := (fun _ => True)) (by (with_reducible repeat first|apply rA|apply rD|apply r1); exact Kd.R_mono HO_8.out (fun _ hk => ⟨trivial, hk⟩)) hg hat); have n1_ := aM hb; have n2_ := aM ho; clear HO_8; clear HB; clear HO_1; have HO_8 := n0_; have HB := n1_; have HO161 := n2_; clear n0_ n1_ n2_; clear ho hb hg hat))
   go_roundg k1
   case measure => have := HK1.out; omega
   case rel => exact ⟨(y159), (wrap64 (x10_1 + 1)), vQ, H', ⟨by have := HK1.out; omega⟩, ⟨mQ HO161⟩, ⟨by (with_reducible repeat first|apply rA|apply rD|apply r1); exact Kd.R_mono HO_8.out (fun _ hk => hk.2)⟩, ⟨bQ⟩⟩
def utf_Good.f (a0 : Int) : Option (Bool) := if a0 ≥ 0 then (if a0 ≤ 1114111 then (if a0 < 55296 then (some true) else (some (decide (a0 > 57343)))) else (some false)) else (some false)
set_option maxHeartbeats 8000000 in
set_option maxRecDepth 100000 in
theorem utf_Good.calls (a0 : Int) (r : Bool) (w : World) (h : utf_Good.f a0 = some r) :
  Calls Tryd.prog 15 #[.int .i64 a0] w fun e w' => e = .returned (.bool r) ∧ Drawn0 w w' := by
 have H : (if a0 ≥ 0 then (if a0 ≤ 1114111 then (if a0 < 55296 then (some true) else (some (decide (a0 > 57343)))) else (some false)) else (some false)) = some r := h
 clear h
 refine iNc H ?_ ?_<;>clear H<;>intro H c2
 rotate_left
 ·have c2b0 : decide (0 ≤ a0) = false := decide_eq_false c2
  clear c2
  obtain rfl := Option.some.inj H
  go_enter Tryd.func15, Tryd.ntmps15
  go_wp2
  go_ret
  exact ⟨by first | rfl | (simp; done) | (simp [*]; done), by repeat (first | exact Drawn0.refl _ | apply Drawn0.step)⟩
 have c2b0 : decide (0 ≤ a0) = true := decide_eq_true c2
 clear c2
 refine iD H ?_ ?_<;>clear H<;>intro H c3b0
 rotate_left
 ·obtain rfl := Option.some.inj H
  go_enter Tryd.func15, Tryd.ntmps15
  go_wp2
  go_ret
  exact ⟨by first | rfl | (simp; done) | (simp [*]; done), by repeat (first | exact Drawn0.refl _ | apply Drawn0.step)⟩
 refine iD H ?_ ?_<;>clear H<;>intro H c4b0
 ·obtain rfl := Option.some.inj H
  go_enter Tryd.func15, Tryd.ntmps15
  go_wp2
  go_ret
  exact ⟨by first | rfl | (simp; done) | (simp [*]; done), by repeat (first | exact Drawn0.refl _ | apply Drawn0.step)⟩
 obtain rfl := Option.some.inj H
 go_enter Tryd.func15, Tryd.ntmps15
 go_wp2
 go_ret
 exact ⟨by first | rfl | (simp; done) | (simp [*]; done), by repeat (first | exact Drawn0.refl _ | apply Drawn0.step)⟩
def glyph_Count.f (k : Nat)  : Option (Int) := (glyph_Names.f k).bind fun t162 => (some (t162.length : Int))
theorem glyph_Count.mono : ∀ k, LeO (glyph_Count.f k ) (glyph_Count.f (k + 1) ) := by
 intro  k
 unfold glyph_Count.f
 repeat' first
   | (with_reducible exact glyph_Names.mono _)
   | (with_reducible exact LeO.refl _)
   | (with_reducible exact LeO.none _)
   | (with_reducible refine LeO.ite ?_ ?_)
   | (with_reducible refine LeO.bind ?_ (fun _ => ?_))
   | exact glyph_Names.mono _
   | exact LeO.none _
   | refine LeO.ite ?_ ?_
   | refine LeO.bind ?_ (fun _ => ?_)
set_option maxHeartbeats 8000000 in
set_option maxRecDepth 100000 in
theorem glyph_Count.calls (k : Nat)  (r : Int) (w : World) (hG : GW w) (h : glyph_Count.f k  = some r) :
  Calls Tryd.prog 13 #[] w fun e w' => e = .returned (.int .i64 r) ∧ Below w.heap.size w w' := by
 have HG := aM hG
 clear hG
 have HB := aM (Below.refl w.heap.size w)
 have H : ((glyph_Names.f k).bind fun t162 => (some (t162.length : Int))) = some r := h
 clear h
 replace H := bS H
 obtain ⟨t162, A1, H⟩ := H
 try dsimp only at H
 obtain rfl := Option.some.inj H
 go_enter Tryd.func13, Tryd.ntmps13
 go_wp2_with (first | ((with_reducible refine gC 11 ?_); refine gL (some 1) Tryd.func11 #[] ?_; (with_reducible refine (glyph_Names.calls k  t162 _ ?side1 A1.out).mono ?_); (case side1 => exact gQ HG.out); rintro e w2 ⟨v163, rfl, ho0, hb⟩; refine ⟨_, rfl, ?_⟩; have HO164 := lK ho0; replace HB := sB hb; clear hb ho0; obtain ⟨Ao3, co3, eo3⟩ := Kd.R_slice HO164.out; subst eo3))
 go_ret
 exact ⟨eQ, bQ⟩
end Go.Proofs.YtdbadfcekomomaaDoor.M
end
section
namespace Go.Proofs
open Go.Shelf
def Tryd.lays119_ren : Go.Shelf.Ren := ⟨fun | 119 => 57 | n => n, fun | 21 => 21 | 4 => 4 | n => n, fun | n => n⟩
theorem Tryd.lays119 : Go.Proofs.Lays.n119 Tryd.prog Tryd.lays119_ren := {
 mixed := by kernel_rfl
 f119 := Tryd.func57.trans (congrArg some (by kernel_rfl))
 t4 := Tryd.underlying4
 a4 := Tryd.isAgg4
 z4 := Tryd.sizeOf4
 v4 := Tryd.zeroValue4
 t21 := Tryd.underlying21
 a21 := Tryd.isAgg21
 z21 := Tryd.sizeOf21
 v21 := Tryd.zeroValue21 }
/-- utf8.ValidRune: "ValidRune reports whether r can be legally encoded as UTF-8. Code points that are out of range or a surrogate half are illegal.": IT RETURNS 'Lib.validRune r'; the world is as it was. (LAID: no walk: one application.) -/
theorem Tryd.utf8_ValidRune (r : Int) (w : World) :
  Calls Tryd.prog 57 #[.int .i32 r] w fun e w' => e = .returned (.bool (Lib.validRune r)) ∧ w' = w := Any.utf8_ValidRune Tryd.lays119 r w
def Tryd.lays143_ren : Go.Shelf.Ren := ⟨fun | 143 => 65 | 219 => 45 | 217 => 60 | 225 => 59 | 224 => 58 | 267 => 61 | 266 => 73 | 314 => 74 | n => n, fun | 9 => 9 | 3 => 3 | 4 => 4 | 5 => 5 | 46 => 92 | 146 => 115 | 51 => 86 | n => n, fun | 1 => 2 | n => n⟩
theorem Tryd.lays143 : Go.Proofs.Lays.n143 Tryd.prog Tryd.lays143_ren := {
 mixed := by kernel_rfl
 f143 := Tryd.func65.trans (congrArg some (by kernel_rfl))
 f217 := Tryd.func60.trans (congrArg some (by kernel_rfl))
 f219 := Tryd.func45.trans (congrArg some (by kernel_rfl))
 f224 := Tryd.func58.trans (congrArg some (by kernel_rfl))
 f225 := Tryd.func59.trans (congrArg some (by kernel_rfl))
 f266 := Tryd.func73.trans (congrArg some (by kernel_rfl))
 f267 := Tryd.func61.trans (congrArg some (by kernel_rfl))
 f314 := Tryd.func74.trans (congrArg some (by kernel_rfl))
 t3 := Tryd.underlying3
 a3 := Tryd.isAgg3
 z3 := Tryd.sizeOf3
 v3 := Tryd.zeroValue3
 t4 := Tryd.underlying4
 a4 := Tryd.isAgg4
 z4 := Tryd.sizeOf4
 v4 := Tryd.zeroValue4
 t5 := Tryd.underlying5
 a5 := Tryd.isAgg5
 z5 := Tryd.sizeOf5
 v5 := Tryd.zeroValue5
 t9 := Tryd.underlying9
 a9 := Tryd.isAgg9
 z9 := Tryd.sizeOf9
 v9 := Tryd.zeroValue9
 t46 := Tryd.underlying92
 a46 := Tryd.isAgg92
 z46 := Tryd.sizeOf92
 v46 := Tryd.zeroValue92
 t51 := Tryd.underlying86
 a51 := Tryd.isAgg86
 z51 := Tryd.sizeOf86
 v51 := Tryd.zeroValue86
 t146 := Tryd.underlying115
 a146 := Tryd.isAgg115
 z146 := Tryd.sizeOf115
 v146 := Tryd.zeroValue115
 g1 := by kernel_rfl }
open Go.RowKit Go.Lib in
/-- strings.Index: "Index returns the index of the first instance of substr in s, or -1 if substr is not present in s.": AT A substr OF ONE BYTE c: IT RETURNS 'Lib.indexByte s c'; the world is as it was. (LAID: no walk: one application.) -/
theorem Tryd.strings_Index_one (s : ByteArray) (c : UInt8) (w : World) :
  Calls Tryd.prog 65 #[.string s, .string ⟨#[c]⟩] w fun e w' => e = .returned (.int .i64 (Lib.indexByte s.data.toList c)) ∧ w' = w := Any.strings_Index_one Tryd.lays143 s c w
def Tryd.lays152_ren : Go.Shelf.Ren := ⟨fun | 152 => 41 | 137 => 56 | 119 => 57 | 224 => 58 | 225 => 59 | 217 => 60 | 266 => 73 | n => n, fun | 9 => 9 | 21 => 21 | 3 => 3 | 4 => 4 | 5 => 5 | 0 => 0 | 46 => 92 | n => n, fun | n => n⟩
theorem Tryd.lays152 : Go.Proofs.Lays.n152 Tryd.prog Tryd.lays152_ren := {
 mixed := by kernel_rfl
 f119 := Tryd.func57.trans (congrArg some (by kernel_rfl))
 f137 := Tryd.func56.trans (congrArg some (by kernel_rfl))
 f152 := Tryd.func41.trans (congrArg some (by kernel_rfl))
 f217 := Tryd.func60.trans (congrArg some (by kernel_rfl))
 f224 := Tryd.func58.trans (congrArg some (by kernel_rfl))
 f225 := Tryd.func59.trans (congrArg some (by kernel_rfl))
 f266 := Tryd.func73.trans (congrArg some (by kernel_rfl))
 t0 := Tryd.underlying0
 a0 := Tryd.isAgg0
 z0 := Tryd.sizeOf0
 v0 := Tryd.zeroValue0
 t3 := Tryd.underlying3
 a3 := Tryd.isAgg3
 z3 := Tryd.sizeOf3
 v3 := Tryd.zeroValue3
 t4 := Tryd.underlying4
 a4 := Tryd.isAgg4
 z4 := Tryd.sizeOf4
 v4 := Tryd.zeroValue4
 t5 := Tryd.underlying5
 a5 := Tryd.isAgg5
 z5 := Tryd.sizeOf5
 v5 := Tryd.zeroValue5
 t9 := Tryd.underlying9
 a9 := Tryd.isAgg9
 z9 := Tryd.sizeOf9
 v9 := Tryd.zeroValue9
 t21 := Tryd.underlying21
 a21 := Tryd.isAgg21
 z21 := Tryd.sizeOf21
 v21 := Tryd.zeroValue21
 t46 := Tryd.underlying92
 a46 := Tryd.isAgg92
 z46 := Tryd.sizeOf92
 v46 := Tryd.zeroValue92 }
open Go.RowKit Go.Lib in
theorem Tryd.strings_IndexRune_ascii (s : ByteArray) (r : Int) (w : World) (h0 : 0 ≤ r) (h1 : r < 128) :
  Calls Tryd.prog 41 #[.string s, .int .i32 r] w fun e w' => e = .returned (.int .i64 (Lib.indexByte s.data.toList r.toNat.toUInt8)) ∧ w' = w := Any.strings_IndexRune_ascii Tryd.lays152 s r w h0 h1
def Tryd.lays226_ren : Go.Shelf.Ren := ⟨fun | 226 => 42 | n => n, fun | 3 => 3 | 4 => 4 | n => n, fun | n => n⟩
theorem Tryd.lays226 : Go.Proofs.Lays.n226 Tryd.prog Tryd.lays226_ren := {
 mixed := by kernel_rfl
 f226 := Tryd.func42.trans (congrArg some (by kernel_rfl))
 t3 := Tryd.underlying3
 a3 := Tryd.isAgg3
 z3 := Tryd.sizeOf3
 v3 := Tryd.zeroValue3
 t4 := Tryd.underlying4
 a4 := Tryd.isAgg4
 z4 := Tryd.sizeOf4
 v4 := Tryd.zeroValue4 }
open Go.RowKit Go.Lib in
theorem Tryd.strings_shouldUseASCIISet (n : Int) (w : World) :
  Calls Tryd.prog 42 #[.int .i64 n] w fun e w' => e = .returned (.bool (decide (8 < n))) ∧ w' = w := Any.strings_shouldUseASCIISet Tryd.lays226 n w
def Tryd.lays153_ren : Go.Shelf.Ren := ⟨fun | 153 => 28 | 152 => 41 | 226 => 42 | 227 => 43 | 228 => 44 | 137 => 56 | 119 => 57 | 224 => 58 | 225 => 59 | 217 => 60 | 266 => 73 | n => n, fun | 9 => 9 | 3 => 3 | 4 => 4 | 5 => 5 | 21 => 21 | 117 => 72 | 116 => 71 | 0 => 0 | 46 => 92 | 124 => 93 | n => n, fun | n => n⟩
theorem Tryd.lays153 : Go.Proofs.Lays.n153 Tryd.prog Tryd.lays153_ren := {
 mixed := by kernel_rfl
 f119 := Tryd.func57.trans (congrArg some (by kernel_rfl))
 f137 := Tryd.func56.trans (congrArg some (by kernel_rfl))
 f152 := Tryd.func41.trans (congrArg some (by kernel_rfl))
 f153 := Tryd.func28.trans (congrArg some (by kernel_rfl))
 f217 := Tryd.func60.trans (congrArg some (by kernel_rfl))
 f224 := Tryd.func58.trans (congrArg some (by kernel_rfl))
 f225 := Tryd.func59.trans (congrArg some (by kernel_rfl))
 f226 := Tryd.func42.trans (congrArg some (by kernel_rfl))
 f227 := Tryd.func43.trans (congrArg some (by kernel_rfl))
 f228 := Tryd.func44.trans (congrArg some (by kernel_rfl))
 f266 := Tryd.func73.trans (congrArg some (by kernel_rfl))
 t0 := Tryd.underlying0
 a0 := Tryd.isAgg0
 z0 := Tryd.sizeOf0
 v0 := Tryd.zeroValue0
 t3 := Tryd.underlying3
 a3 := Tryd.isAgg3
 z3 := Tryd.sizeOf3
 v3 := Tryd.zeroValue3
 t4 := Tryd.underlying4
 a4 := Tryd.isAgg4
 z4 := Tryd.sizeOf4
 v4 := Tryd.zeroValue4
 t5 := Tryd.underlying5
 a5 := Tryd.isAgg5
 z5 := Tryd.sizeOf5
 v5 := Tryd.zeroValue5
 t9 := Tryd.underlying9
 a9 := Tryd.isAgg9
 z9 := Tryd.sizeOf9
 v9 := Tryd.zeroValue9
 t21 := Tryd.underlying21
 a21 := Tryd.isAgg21
 z21 := Tryd.sizeOf21
 v21 := Tryd.zeroValue21
 t46 := Tryd.underlying92
 a46 := Tryd.isAgg92
 z46 := Tryd.sizeOf92
 v46 := Tryd.zeroValue92
 t116 := Tryd.underlying71
 a116 := Tryd.isAgg71
 z116 := Tryd.sizeOf71
 t117 := Tryd.underlying72
 a117 := Tryd.isAgg72
 z117 := Tryd.sizeOf72
 v117 := Tryd.zeroValue72
 t124 := Tryd.underlying93
 a124 := Tryd.isAgg93
 z124 := Tryd.sizeOf93
 v124 := Tryd.zeroValue93 }
open Go.RowKit Go.Lib in
theorem Tryd.strings_IndexAny_long (hv116 : ∀ w, (zeroValue 71).run Tryd.prog w = .ok (.agg (Array.replicate 256 (.bool false))) w) (s chars : ByteArray) (w : World) (h2 : 2 ≤ chars.size) (h8 : 8 < s.size) (hs : s.size < 4294967281) (hcs : chars.size < 4294967281) (hascii : ∀ (j : Nat) b, chars.data.toList[j]? = some b → b.toNat < 128) :
  Calls Tryd.prog 28 #[.string s, .string chars] w fun e w' => e = .returned (.int .i64 (Lib.indexAny s.data.toList chars.data.toList)) ∧ w' = ((w.alloc (.cells (Lib.setCells chars.data.toList) 71)).alloc (.cells (Lib.setCells chars.data.toList) 71)) := Any.strings_IndexAny_long Tryd.lays153 hv116 (by kernel_rfl) s chars w h2 h8 hs hcs hascii
def Tryd.lays150_ren : Go.Shelf.Ren := ⟨fun | 150 => 17 | 153 => 28 | 152 => 41 | 226 => 42 | 227 => 43 | 228 => 44 | 137 => 56 | 119 => 57 | 224 => 58 | 225 => 59 | 217 => 60 | 266 => 73 | n => n, fun | 9 => 9 | 4 => 4 | 3 => 3 | 5 => 5 | 21 => 21 | 117 => 72 | 116 => 71 | 0 => 0 | 46 => 92 | 124 => 93 | n => n, fun | n => n⟩
theorem Tryd.lays150 : Go.Proofs.Lays.n150 Tryd.prog Tryd.lays150_ren := {
 mixed := by kernel_rfl
 f119 := Tryd.func57.trans (congrArg some (by kernel_rfl))
 f137 := Tryd.func56.trans (congrArg some (by kernel_rfl))
 f150 := Tryd.func17.trans (congrArg some (by kernel_rfl))
 f152 := Tryd.func41.trans (congrArg some (by kernel_rfl))
 f153 := Tryd.func28.trans (congrArg some (by kernel_rfl))
 f217 := Tryd.func60.trans (congrArg some (by kernel_rfl))
 f224 := Tryd.func58.trans (congrArg some (by kernel_rfl))
 f225 := Tryd.func59.trans (congrArg some (by kernel_rfl))
 f226 := Tryd.func42.trans (congrArg some (by kernel_rfl))
 f227 := Tryd.func43.trans (congrArg some (by kernel_rfl))
 f228 := Tryd.func44.trans (congrArg some (by kernel_rfl))
 f266 := Tryd.func73.trans (congrArg some (by kernel_rfl))
 t0 := Tryd.underlying0
 a0 := Tryd.isAgg0
 z0 := Tryd.sizeOf0
 v0 := Tryd.zeroValue0
 t3 := Tryd.underlying3
 a3 := Tryd.isAgg3
 z3 := Tryd.sizeOf3
 v3 := Tryd.zeroValue3
 t4 := Tryd.underlying4
 a4 := Tryd.isAgg4
 z4 := Tryd.sizeOf4
 v4 := Tryd.zeroValue4
 t5 := Tryd.underlying5
 a5 := Tryd.isAgg5
 z5 := Tryd.sizeOf5
 v5 := Tryd.zeroValue5
 t9 := Tryd.underlying9
 a9 := Tryd.isAgg9
 z9 := Tryd.sizeOf9
 v9 := Tryd.zeroValue9
 t21 := Tryd.underlying21
 a21 := Tryd.isAgg21
 z21 := Tryd.sizeOf21
 v21 := Tryd.zeroValue21
 t46 := Tryd.underlying92
 a46 := Tryd.isAgg92
 z46 := Tryd.sizeOf92
 v46 := Tryd.zeroValue92
 t116 := Tryd.underlying71
 a116 := Tryd.isAgg71
 z116 := Tryd.sizeOf71
 t117 := Tryd.underlying72
 a117 := Tryd.isAgg72
 z117 := Tryd.sizeOf72
 v117 := Tryd.zeroValue72
 t124 := Tryd.underlying93
 a124 := Tryd.isAgg93
 z124 := Tryd.sizeOf93
 v124 := Tryd.zeroValue93 }
open Go.RowKit Go.Lib in
theorem Tryd.strings_ContainsAny_laid (s chars : ByteArray) (w : World) (hs : s.size < 4294967281) (hcs : chars.size < 4294967281) (has : ∀ (j : Nat) b, s.data.toList[j]? = some b → b.toNat < 128) (hac : ∀ (j : Nat) b, chars.data.toList[j]? = some b → b.toNat < 128) :
  Calls Tryd.prog 17 #[.string s, .string chars] w fun e w' => e = .returned (.bool (Lib.containsAny s.data.toList chars.data.toList)) ∧ Below w.heap.size w w' := Any.strings_ContainsAny_laid Tryd.lays150 (by kernel_rfl) s chars w hs hcs has hac
end Go.Proofs
end
section
namespace Go.Proofs.YtdbadfcekomomaaDoor.M
open Go.RowKit Go.Proofs.YtdbadfcekomomaaDoorW.PrintWords
set_option linter.unusedVariables false
theorem le_rounds {α : Type} {g : Nat → Option α} (hm : ∀ k, LeO (g k) (g (k + 1))) {k : Nat} {r : α} (h : g k = some r) : ∀ {m : Nat}, k ≤ m → g m = some r := by
 intro m hk
 induction m with
 | zero =>
  obtain rfl : k = 0 := by omega
  exact h
 | succ m ih =>
  by_cases e : k = m + 1
  ·subst e; exact h
  ·exact hm m r (ih (by omega))
theorem and_mask (a : Int) (i : Nat) (hi : i ≤ 32) (m : Int) (hm : m = 2 ^ i - 1) : Go.bits .and .i64 a m = a % 2 ^ i := by
 have hpos : 0 < 2 ^ i := Nat.two_pow_pos i
 have hle : 2 ^ i ≤ 2 ^ 32 := Nat.pow_le_pow_right (by decide) hi
 obtain ⟨p, hp⟩ : ∃ p : Nat, 2 ^ i = p := ⟨_, rfl⟩
 have hc : m = ((2 ^ i - 1 : Nat) : Int) := by rw [hm, Int.natCast_sub hpos]; simp
 have e1 : (BitVec.ofInt 64 a).toNat = (a % (2 ^ 64 : Nat)).toNat := BitVec.toNat_ofInt a
 have e2 : (BitVec.ofInt 64 m).toNat = 2 ^ i - 1 := by
  rw [hc, BitVec.ofInt_natCast, BitVec.toNat_ofNat, Nat.mod_eq_of_lt]; rw [hp] at hle ⊢; omega
 have e3 : (BitVec.ofInt 64 a &&& BitVec.ofInt 64 m).toNat = (a % (2 ^ 64 : Nat)).toNat % 2 ^ i := by
  rw [BitVec.toNat_and, e1, e2, Nat.and_two_pow_sub_one_eq_mod]
 have e4 : Go.bits .and .i64 a m = IntKind.i64.wrap (((a % (2 ^ 64 : Nat)).toNat % 2 ^ i : Nat) : Int) := by
  show IntKind.i64.wrap _ = _
  exact congrArg (fun n : Nat => IntKind.i64.wrap (n : Int)) e3
 rw [e4, IntKind.wrap_i64]
 have hdv : (2 ^ i : Nat) ∣ (2 ^ 64 : Nat) := Nat.pow_dvd_pow 2 (by omega)
 have h1 : (((a % (2 ^ 64 : Nat)).toNat % 2 ^ i : Nat) : Int) = a % ((2 ^ i : Nat) : Int) := by
  rw [Int.natCast_emod, Int.toNat_of_nonneg (Int.emod_nonneg _ (by decide))]
  exact Int.emod_emod_of_dvd a (Int.natCast_dvd_natCast.2 hdv)
 rw [h1]
 have h2 : ((2 ^ i : Nat) : Int) = (2 : Int) ^ i := by simp
 rw [← h2, hp]
 have h3 := Int.emod_nonneg a (show (p : Int) ≠ 0 by omega)
 have h4 := Int.emod_lt_of_pos a (show (0 : Int) < p by omega)
 omega
theorem ba_eta (a : ByteArray) : a = ⟨a.data.toList.toArray⟩ := by cases a; rfl
theorem toList_data (a : ByteArray) : a.toList = a.data.toList := ByteArray.toList_eq a
theorem ext_from (a : ByteArray) (i : Nat) : a.extract i a.size = ⟨(a.data.toList.drop i).toArray⟩ := by
 rw [ba_eta (a.extract i a.size), Lib.extract_to_end]
theorem bt_get (a : ByteArray) (i : Nat) (h : i < a.size) : bt a (i : Int) = (a.data.toList[i]'(by simpa using h)).toNat := by
 unfold bt
 simp only [Int.toNat_natCast, h, dif_pos]
 rfl
theorem ba_size (l : List UInt8) : (⟨l.toArray⟩ : ByteArray).size = l.length := by show l.toArray.size = _; simp
theorem ba_list (l : List UInt8) : (⟨l.toArray⟩ : ByteArray).data.toList = l := by simp
theorem size_list (s : ByteArray) : s.size = s.data.toList.length := rfl
theorem ext_mid (s : ByteArray) (i j : Nat) : s.extract i j = ⟨((s.data.toList.drop i).take (j - i)).toArray⟩ := by
 rw [ba_eta (s.extract i j), Lib.extract_data]
theorem wrap_small {x : Int} (h0 : 0 ≤ x) (h1 : x < 9223372036854775808) : wrap64 x = x := by unfold wrap64; omega
set_option maxHeartbeats 4000000 in
set_option maxRecDepth 1000000 in
theorem indexRune_err (w : World) : Calls Tryd.prog 41 #[.string ⟨#[32, 61]⟩, .int .i32 65533] w fun e w' => e = .returned (.int .i64 (-1)) ∧ Below w.heap.size w w' := by
 go_enter Tryd.func41, Tryd.ntmps41
 go_wp2
 go_loopg [5, 6] 2 (fun g _ _ wx => ∃ i : Nat, i + g = 2 ∧ wx = w.iter ⟨#[32, 61]⟩ i)
 case atStart => exact ⟨0, rfl, rfl⟩
 case round =>
  obtain ⟨i, hig, rfl⟩ := hrel
  cases gk with
  | zero =>
   obtain rfl : i = 2 := by omega
   have hnx := fun ty => run_next_end (P := Tryd.prog) w ⟨#[32, 61]⟩ 2 ty (by decide)
   go_wp2
   go_ret
   exact ⟨rfl, below_alloc (Below.refl _ _) _⟩
  | succ g =>
   have hi : i = 0 ∨ i = 1 := by omega
   rcases hi with rfl | rfl
   ·have hnx : ∀ ty, (Instr.next (.pointer (some ⟨w.heap.size, 0, none⟩)) true ty).run Tryd.prog (w.iter ⟨#[32, 61]⟩ 0) = .ok (.tuple #[.bool true, .int .i64 0, .int .i32 32]) (w.iter ⟨#[32, 61]⟩ 1) := fun ty => run_next_ascii (P := Tryd.prog) w ⟨#[32, 61]⟩ 0 ty (by decide) (by decide)
    go_wp2
    go_roundg g
    case measure => omega
    case rel => exact ⟨1, by omega, rfl⟩
   ·have hnx : ∀ ty, (Instr.next (.pointer (some ⟨w.heap.size, 0, none⟩)) true ty).run Tryd.prog (w.iter ⟨#[32, 61]⟩ 1) = .ok (.tuple #[.bool true, .int .i64 1, .int .i32 61]) (w.iter ⟨#[32, 61]⟩ 2) := fun ty => run_next_ascii (P := Tryd.prog) w ⟨#[32, 61]⟩ 1 ty (by decide) (by decide)
    go_wp2
    go_roundg g
    case measure => omega
    case rel => exact ⟨2, by omega, rfl⟩
set_option maxHeartbeats 4000000 in
set_option maxRecDepth 1000000 in
theorem indexRune_bad (r : Int) (h0 : 128 ≤ r) (hne : r ≠ 65533) (hv : Lib.validRune r = false) (w : World) : Calls Tryd.prog 41 #[.string ⟨#[32, 61]⟩, .int .i32 r] w fun e w' => e = .returned (.int .i64 (-1)) ∧ Below w.heap.size w w' := by
 have h1 : (r == 65533) = false := beq_eq_false_iff_ne.2 hne
 have h2 : decide (0 ≤ r) = true := decide_eq_true (by omega)
 have h3 : decide (r < 128) = false := decide_eq_false (by omega)
 go_enter Tryd.func41, Tryd.ntmps41
 go_wp2_with (go_at_call 57; refine (Tryd.utf8_ValidRune r _).mono ?_; rintro e w' ⟨rfl, hw⟩; rw [hw, hv])
 go_ret
 exact ⟨rfl, Below.refl _ _⟩
set_option maxHeartbeats 8000000 in
set_option maxRecDepth 1000000 in
theorem indexRune_valid (r : Int) (h0 : 128 ≤ r) (hne : r ≠ 65533) (hv : Lib.validRune r = true) (w : World) : Calls Tryd.prog 41 #[.string ⟨#[32, 61]⟩, .int .i32 r] w fun e w' => e = .returned (.int .i64 (-1)) ∧ Below w.heap.size w w' := by
 have h1 : (r == 65533) = false := beq_eq_false_iff_ne.2 hne
 have h2 : decide (0 ≤ r) = true := decide_eq_true (by omega)
 have h3 : decide (r < 128) = false := decide_eq_false (by omega)
 obtain ⟨e1, e2, e3⟩ := encode_facts r (by rw [validRune_eq]; exact hv) h0
 generalize hrs : Utf8.encode r = rs at e1 e2 e3
 have hcv : ∀ W, (convert 21 9 (.int .i32 r)).run Tryd.prog W = .ok (.string rs) W := fun W => by rw [run_convert_int_string W 21 9 .i32 r (by rw [Tryd.underlying21]; rfl) Tryd.underlying9, hrs]
 have hw1 : wrap64 ((rs.size : Int) - 1) = ((rs.size - 1 : Nat) : Int) := by rw [Go.Proofs.YtdbadfcekomomaaDoor.M.wrap_small (by omega) (by omega)]; omega
 go_enter Tryd.func41, Tryd.ntmps41
 go_wp2_with (go_at_call 57; refine (Tryd.utf8_ValidRune r _).mono ?_; rintro e w' ⟨rfl, hw⟩; rw [hw, hv])
 refine wp_scope_straight ?_
 go_wp2
 go_loopg [9, 10, 11, 12] 0 (fun _ s9 s10 s11 s12 wx => s9 = .int .i64 ((rs.size : Int) - 1) ∧ wx = w)
 case atStart => exact ⟨rfl, rfl⟩
 case round =>
  obtain ⟨rfl, rfl⟩ := hrel
  by_cases h2s : rs.size = 2
  ·have e9 : (rs.size : Int) - 1 = 1 := by omega
   obtain ⟨c, hc⟩ : ∃ c : UInt8, rs[1]'(by omega) = c := ⟨_, rfl⟩
   have hcc : 128 ≤ c.toNat := by
    have h := e3 (by omega)
    have : rs[rs.size - 1]'(by omega) = c := by rw [← hc]; congr 1; omega
    rw [this] at h
    exact h
   have hcn : ((((⟨#[32, 61]⟩ : ByteArray)[1]'(by decide)).toNat : Int) != (c.toNat : Int)) = true := bne_iff_ne.2 (by show (61 : Int) ≠ _; omega)
   rw [e9]
   have h1s : (1 : Nat) < rs.size := by omega
   have hib : Lib.indexByte [] c = -1 := rfl
   go_wp2
   refine wp_scope_straight ?_
   go_wp2
   repeat (go_quiet (fail); try go_wp2)
   go_region_with (go_at_call 56; refine (Tryd.strings_IndexByte _ _ _).mono ?_; rintro e w' ⟨rfl, hw⟩; rw [hw])
   all_goals (go_wp2; (repeat (go_quiet (fail); try go_wp2)); simp only [Exit.noGoto, Exit.inBlock, Exit.then]; go_ret; exact ⟨rfl, pw_below_drewN (Below.refl _ _) _⟩)
  ·have hlt : decide ((rs.size : Int) - 1 < 2) = false := decide_eq_false (by omega)
   go_wp2
   simp only [Exit.noGoto]
   simp only [Exit.inBlock]
   go_ret
   exact ⟨rfl, Below.refl _ _⟩
theorem indexRune_high (r : Int) (h0 : 128 ≤ r) (w : World) : Calls Tryd.prog 41 #[.string ⟨#[32, 61]⟩, .int .i32 r] w fun e w' => e = .returned (.int .i64 (-1)) ∧ Below w.heap.size w w' := by
 by_cases h : r = 65533
 ·subst h; exact indexRune_err w
 ·cases hv : Lib.validRune r with
  | true => exact indexRune_valid r h0 h hv w
  | false => exact indexRune_bad r h0 h hv w
/-- All bytes of a rune beyond ASCII are beyond ASCII. -/
theorem decode_span (s : ByteArray) (pos : Nat) (h : pos < s.size) (ha : 128 ≤ (s[pos]'h).toNat) (m : Nat) (hm : m < (Utf8.decode s pos).2) : pos + m < s.size ∧ 128 ≤ (s.get! (pos + m)).toNat := by
 have h0 : 128 ≤ (s.get! (pos + 0)).toNat := by rw [get_at s pos h]; exact ha
 have hn : ¬ (s.get! (pos + 0)).toNat < 128 := by omega
 have f : ∀ k, (decide (pos + k < s.size) && (s.get! (pos + k)).toNat / 64 == 2) = true → pos + k < s.size ∧ 128 ≤ (s.get! (pos + k)).toNat := by
  intro k hk
  rw [Bool.and_eq_true, decide_eq_true_eq, beq_iff_eq] at hk
  exact ⟨hk.1, by omega⟩
 have z : pos + 0 < s.size ∧ 128 ≤ (s.get! (pos + 0)).toNat := ⟨by omega, h0⟩
 unfold Utf8.decode at hm
 simp only [hn, if_false] at hm
 split at hm
 ·rename_i hc
  rw [Bool.and_eq_true] at hc
  have f1 := f 1 hc.2
  have hm2 : m < 2 := by split at hm <;> (dsimp only at hm; omega)
  match m, hm2 with
  | 0, _ => exact z
  | 1, _ => exact f1
 ·split at hm
  ·rename_i hc
   rw [Bool.and_eq_true, Bool.and_eq_true] at hc
   have f1 := f 1 hc.1.2
   have f2 := f 2 hc.2
   have hm2 : m < 3 := by split at hm <;> (dsimp only at hm; omega)
   match m, hm2 with
   | 0, _ => exact z
   | 1, _ => exact f1
   | 2, _ => exact f2
  ·split at hm
   ·rename_i hc
    rw [Bool.and_eq_true, Bool.and_eq_true, Bool.and_eq_true] at hc
    have f1 := f 1 hc.1.1.2
    have f2 := f 2 hc.1.2
    have f3 := f 3 hc.2
    have hm2 : m < 4 := by split at hm <;> (dsimp only at hm; omega)
    match m, hm2 with
    | 0, _ => exact z
    | 1, _ => exact f1
    | 2, _ => exact f2
    | 3, _ => exact f3
   ·dsimp only at hm
    obtain rfl : m = 0 := by omega
    exact z
theorem noAny_span (s : ByteArray) (i d : Nat) (h : Lib.NoAny s.data.toList [32, 61] i) (hd : ∀ m, m < d → i + m < s.size ∧ 128 ≤ (s.get! (i + m)).toNat) : Lib.NoAny s.data.toList [32, 61] (i + d) := by
 intro j b hj hb
 by_cases hji : j < i
 ·exact h j b hji hb
 ·obtain ⟨h1, h2⟩ := hd (j - i) (by omega)
  rw [show i + (j - i) = j by omega] at h1 h2
  have hL : j < s.data.toList.length := (List.getElem?_eq_some_iff.1 hb).1
  have hg : s.get! j = b := by
   have e := get_at s j h1
   rw [Nat.add_zero] at e
   rw [e]
   have := Lib.data_getElem? s j h1
   rw [hb] at this
   exact (Option.some.inj this).symm
  rw [hg] at h2
  simp
  constructor
  ·rintro rfl; exact absurd h2 (by decide)
  ·rintro rfl; exact absurd h2 (by decide)
set_option maxHeartbeats 8000000 in
set_option maxRecDepth 1000000 in
theorem indexAny_short (s : ByteArray) (w : World) (h8 : s.size ≤ 8) :
  Calls Tryd.prog 28 #[.string s, .string ⟨#[32, 61]⟩] w fun e w' => e = .returned (.int .i64 (Lib.indexAny s.data.toList [32, 61])) ∧ Below w.heap.size w w' := by
 have h8z : decide ((8 : Int) < (s.size : Int)) = false := decide_eq_false (by omega)
 have h8y : decide (8 < s.size) = false := decide_eq_false (by omega)
 go_enter Tryd.func28, Tryd.ntmps28
 go_wp2_with (go_at_call 42; refine (Tryd.strings_shouldUseASCIISet _ _).mono ?_; rintro e w' ⟨rfl, hw⟩; rw [hw, h8z])
 go_loopg [9, 10] s.size (fun g _ _ wx => ∃ i : Nat, g = s.size - i ∧ wx.heap[w.heap.size]? = some (.stringIter s i) ∧ Below w.heap.size w wx ∧ Lib.NoAny s.data.toList [32, 61] i)
 case atStart => exact ⟨0, rfl, World.iter_heap w s 0, below_alloc (Below.refl _ _) _, Lib.NoAny.zero _ _⟩
 case round =>
  obtain ⟨i, rfl, hk, hb, hno⟩ := hrel
  have HN := Aside0.mk hno
  clear hno
  by_cases hi : i < s.size
  ·obtain ⟨x, hx⟩ : ∃ x : UInt8, s[i]'hi = x := ⟨_, rfl⟩
   have hxl : s.data.toList[i]? = some x := by rw [← hx]; exact Lib.data_getElem? s i hi
   have HX := Aside0.mk hxl
   clear hxl
   have hnx : ∀ ty, (Instr.next (.pointer (some ⟨w.heap.size, 0, none⟩)) true ty).run Tryd.prog wr = _ := fun ty => Lib.run_next_any_at wr w.heap.size s i ty hk hi
   have hk1 := Lib.iterAt_heap wr w.heap.size s i (i + (Utf8.decode s i).2) hk
   have hb1 : Below w.heap.size w (wr.iterAt w.heap.size s (i + (Utf8.decode s i).2)) := Lib.below_iterAt hb (Nat.le_refl _) s _
   generalize wr.iterAt w.heap.size s (i + (Utf8.decode s i).2) = W1 at hnx hk1 hb1
   by_cases hx128 : x.toNat < 128
   ·have hd := decode_ascii s i hi (by rw [hx]; exact hx128)
    rw [hx] at hd
    rw [hd] at hnx hk1
    dsimp only at hnx hk1
    have hcon := Lib.contains_iff_indexByte [32, 61] x
    have hback : ((x.toNat : Int)).toNat.toUInt8 = x := by simp
    cases hin : ([32, 61] : List UInt8).contains x
    ·rw [hin] at hcon
     have hlt : ¬ ((0 : Int) ≤ Lib.indexByte [32, 61] x) := of_decide_eq_false hcon.symm
     clear hcon
     go_wp2_with (go_at_call 41; refine (Tryd.strings_IndexRune_ascii _ _ _ (by omega) (by omega)).mono ?_; rintro e w' ⟨rfl, hw⟩; rw [hw, hback])
     go_roundg (s.size - (i + 1))
     case measure => omega
     case rel => exact ⟨i + 1, rfl, hk1, hb1, HN.out.succ HX.out hin⟩
    ·rw [hin] at hcon
     have hge : (0 : Int) ≤ Lib.indexByte [32, 61] x := of_decide_eq_true hcon.symm
     clear hcon
     go_wp2_with (go_at_call 41; refine (Tryd.strings_IndexRune_ascii _ _ _ (by omega) (by omega)).mono ?_; rintro e w' ⟨rfl, hw⟩; rw [hw, hback])
     go_ret
     exact ⟨by rw [Lib.indexAny_hit HN.out HX.out hin]; rfl, hb1⟩
   ·have hh := decode_high s i hi (by rw [hx]; omega)
    have hsp := noAny_span s i (Utf8.decode s i).2 HN.out (decode_span s i hi (by rw [hx]; omega))
    have hle := decode_le s i
    generalize (Utf8.decode s i).1 = rv at hnx hh hle
    generalize (Utf8.decode s i).2 = dw at hnx hk1 hh hsp
    have HSP := Aside0.mk hsp
    clear hsp
    have hm1 : ¬ ((0 : Int) ≤ -1) := by decide
    go_wp2_with (go_at_call 41; refine (indexRune_high _ (by omega) _).mono ?_; rintro e W2 ⟨rfl, hb2⟩; have hk2 := (hb2.block w.heap.size (Array.getElem?_eq_some_iff.1 hk1).1).trans hk1; have hb3 := below_then hb1 hb1.size hb2)
    go_roundg (s.size - (i + dw))
    case measure => omega
    case rel => exact ⟨i + dw, rfl, hk2, hb3, HSP.out⟩
  ·have hnx : ∀ ty, (Instr.next (.pointer (some ⟨w.heap.size, 0, none⟩)) true ty).run Tryd.prog wr = _ := fun ty => Lib.run_next_end_at wr w.heap.size s i ty hk hi
   go_wp2
   go_ret
   refine ⟨by rw [Lib.indexAny_none (fun j b hj hb => HN.out j b (by rw [← size_list] at hj; omega) hb)]; rfl, hb⟩
set_option maxRecDepth 100000 in
/-- strings.IndexAny of any text and " =". -/
theorem indexAny_sp (s : ByteArray) (w : World) (hs : s.size < 4294967281) :
  Calls Tryd.prog 28 #[.string s, .string ⟨#[32, 61]⟩] w fun e w' => e = .returned (.int .i64 (Lib.indexAny s.data.toList [32, 61])) ∧ Below w.heap.size w w' := by
 by_cases h8 : s.size ≤ 8
 ·exact indexAny_short s w h8
 ·refine (Tryd.strings_IndexAny_long (fun w => ?_) s ⟨#[32, 61]⟩ w (by decide) (by omega) hs (by decide) ?_).mono ?_
  ·exact (zero_of_info (show (Tryd.prog.info? 70).map (fun i => (i.zero, i.size)) = some (some (.agg (Array.replicate 256 (.bool false))), 256) by kernel_rfl)).1 w
  ·intro j b hj
   match j, hj with
   | 0, hj => simp at hj; subst hj; decide
   | 1, hj => simp at hj; subst hj; decide
   | (j + 2), hj => simp at hj
  ·rintro e w' ⟨rfl, rfl⟩
   exact ⟨rfl, below_alloc (below_alloc (Below.refl _ _) _) _⟩
def allAscii (l : List UInt8) : Bool := l.all fun b => decide (b.toNat < 128)
def strings_ContainsAny.f (a0 a1 : ByteArray) : Option Bool := if a0.size < 4294967281 ∧ a1.size < 4294967281 ∧ (allAscii a0.data.toList = true ∨ a1.data.toList = [32, 61]) ∧ allAscii a1.data.toList = true then some (Lib.containsAny a0.data.toList a1.data.toList) else none
theorem allAscii_at {l : List UInt8} (h : allAscii l = true) : ∀ (j : Nat) b, l[j]? = some b → b.toNat < 128 := by
 intro j b hj
 simpa using List.all_eq_true.1 h b (List.mem_of_getElem? hj)
set_option maxRecDepth 100000 in
theorem strings_ContainsAny.calls (a0 a1 : ByteArray) (r : Bool) (w : World) (h : strings_ContainsAny.f a0 a1 = some r) :
  Calls Tryd.prog 17 #[.string a0, .string a1] w fun e w' => e = .returned (.bool r) ∧ Below w.heap.size w w' := by
 unfold strings_ContainsAny.f at h
 split at h
 case isFalse => cases h
 rename_i hb
 obtain rfl := Option.some.inj h
 rcases hb.2.2.1 with h3 | h3
 ·exact Tryd.strings_ContainsAny_laid a0 a1 w hb.1 hb.2.1 (allAscii_at h3) (allAscii_at hb.2.2.2)
 ·have e1 : a1 = ⟨#[32, 61]⟩ := by
   rcases a1 with ⟨⟨a1⟩⟩
   have : a1 = [32, 61] := h3
   rw [this]
  subst e1
  have hx := indexAny_sp a0 w hb.1
  have hc : Lib.containsAny a0.data.toList [32, 61] = decide (0 ≤ Lib.indexAny a0.data.toList [32, 61]) := rfl
  show Calls Tryd.prog 17 #[.string a0, .string ⟨#[32, 61]⟩] w fun e w' => e = .returned (.bool (Lib.containsAny a0.data.toList [32, 61])) ∧ Below w.heap.size w w'
  rw [hc]
  clear hc h3 hb h
  generalize Lib.indexAny a0.data.toList [32, 61] = n at hx
  go_enter Tryd.func17, Tryd.ntmps17
  go_wp2_with (go_at_call 28; refine hx.mono ?_; rintro e W2 ⟨rfl, hb2⟩)
  go_ret
  exact ⟨by first | rfl | simp, hb2⟩
end Go.Proofs.YtdbadfcekomomaaDoor.M
end
section
namespace Go.Proofs.YtdbadfcekomomaaDoor.M
open Go.RowKit Go.Shelf Go.Proofs.YtdbadfcekomomaaDoorW.PrintWords
set_option linter.unusedVariables false
set_option linter.unusedSimpArgs false
attribute [local go_sem] Oper.semAt_some
/-- The parts of a text between a byte. -/
def splitB (c : UInt8) : List UInt8 → List UInt8 → List (List UInt8)
 | [], w => [w]
 | x :: r, w => if x = c then w :: splitB c r [] else splitB c r (w ++ [x])
def partsOf (c : UInt8) (s : List UInt8) : List ByteArray := (splitB c s []).map fun l => ⟨l.toArray⟩
theorem splitB_index (c : UInt8) : ∀ (l w : List UInt8), splitB c l w = if Lib.indexByte l c = -1 then [w ++ l] else (w ++ l.take (Lib.indexByte l c).toNat) :: splitB c (l.drop ((Lib.indexByte l c).toNat + 1)) []
 | [], w => by simp [splitB, Lib.indexByte]
 | x :: r, w => by
  have hge := Lib.indexByte_ge r c
  by_cases h : x = c
  ·simp [splitB, Lib.indexByte, h]
  ·have hb : (x == c) = false := by simpa using h
   simp only [splitB, if_neg h, Lib.indexByte, hb, Bool.false_eq_true, if_false]
   rw [splitB_index c r (w ++ [x])]
   by_cases hn : Lib.indexByte r c = -1
   ·rw [if_pos hn, if_pos (by simp [hn])]; simp
   ·have hb2 : (Lib.indexByte r c == -1) = false := by simpa using hn
    rw [if_neg hn, hb2]
    simp only [Bool.false_eq_true, if_false]
    rw [if_neg (by omega)]
    have e : (Lib.indexByte r c + 1).toNat = (Lib.indexByte r c).toNat + 1 := by omega
    rw [e]
    simp
theorem indexByte_lt (c : UInt8) : ∀ l : List UInt8, Lib.indexByte l c < l.length
 | [] => by simp [Lib.indexByte]
 | x :: r => by
  have := indexByte_lt c r
  simp only [Lib.indexByte, List.length_cons]
  split
  ·omega
  ·split <;> omega
def strLeft (b : Nat) (W : World) : Nat := match W.cell? ⟨b, 0, none⟩ with
 | some (.string x) => x.size
 | _ => 0
theorem splitSeq_in (l bs bp bv : Nat) (c : UInt8) (s : ByteArray) (hsz : s.size ≤ 1000000) (h1 : bs ≠ bp) (h2 : bs ≠ bv) (J : List ByteArray → World → Prop)
  (hset : ∀ pre W v, J pre W → J pre (W.setCell ⟨bs, 0, none⟩ v))
  (hY : ∀ pre x W, J pre W → x ∈ partsOf c s.data.toList → pre.length < (partsOf c s.data.toList).length → YieldAt Fence.wide 0 Tryd.prog l #[.string x] W fun e W' =>
   e = .returned (.bool true) ∧ J (pre ++ [x]) W' ∧ W'.heap[bs]? = W.heap[bs]? ∧ W'.heap[bp]? = W.heap[bp]? ∧ W'.heap[bv]? = W.heap[bv]?)
  (W : World) (hbs : W.heap[bs]? = some (.cells #[.string s] 9 (0, 0))) (hbp : W.heap[bp]? = some (.cells #[.string ⟨#[c]⟩] 9 (0, 0))) (hbv : W.heap[bv]? = some (.cells #[.int .i64 0] 3 (0, 0))) (h0 : J [] W) :
  CallsIn Fence.wide 1 Tryd.prog 63 #[.func (.yield l) #[] #[], .pointer (some ⟨bp, 0, none⟩), .pointer (some ⟨bs, 0, none⟩), .pointer (some ⟨bv, 0, none⟩)] W fun e W' => (∃ v, e = .returned v) ∧ J (partsOf c s.data.toList) W' := by
 have hc1 : W.cell? ⟨bp, 0, none⟩ = some (.string ⟨#[c]⟩) := by simp [World.cell?, hbp]
 have hc2 : W.cell? ⟨bs, 0, none⟩ = some (.string s) := by simp [World.cell?, hbs]
 have hc3 : W.cell? ⟨bv, 0, none⟩ = some (.int .i64 0) := by simp [World.cell?, hbv]
 refine callsIn_of_wp Tryd.func63 rfl trivial ?_ rfl
 simp only [Tryd.ntmps63, List.size_toArray, List.length_cons, List.length_nil, Nat.reduceAdd, Nat.reduceSub, Array.replicate_succ, Array.replicate_zero, List.push_toArray, List.append_toArray, List.nil_append, List.cons_append]
 gi_wp2
 gi_loopw [7] (fun _ wr => ∃ (pre : List ByteArray) (cur : List UInt8), cur.length ≤ 1000000 ∧ Aside0 (partsOf c s.data.toList = pre ++ partsOf c cur) ∧ Aside0 (wr.heap[bs]? = some (.cells #[.string ⟨cur.toArray⟩] 9 (0, 0))) ∧ Aside0 (wr.heap[bp]? = some (.cells #[.string ⟨#[c]⟩] 9 (0, 0))) ∧ Aside0 (wr.heap[bv]? = some (.cells #[.int .i64 0] 3 (0, 0))) ∧ Aside0 (J pre wr))
  (fun _ wr => strLeft bs wr)
 case atStart => exact ⟨[], s.data.toList, hsz, ⟨rfl⟩, ⟨hbs⟩, ⟨hbp⟩, ⟨hbv⟩, ⟨h0⟩⟩
 case round =>
  clear hc1 hc2 hc3
  obtain ⟨pre, cur, hcl, HP, HS, HB, HV, HJ⟩ := hrel
  have hc1 : wr.cell? ⟨bp, 0, none⟩ = some (.string ⟨#[c]⟩) := by simp [World.cell?, HB.out]
  have hc2 : wr.cell? ⟨bs, 0, none⟩ = some (.string ⟨cur.toArray⟩) := by simp [World.cell?, HS.out]
  have hc3 : wr.cell? ⟨bv, 0, none⟩ = some (.int .i64 0) := by simp [World.cell?, HV.out]
  have hsp := splitB_index c cur []
  have hge := Lib.indexByte_ge cur c
  have hlt := indexByte_lt c cur
  have hY' : ∀ x : ByteArray, x ∈ partsOf c cur → YieldAt Fence.wide 0 Tryd.prog l #[.string x] wr fun e W' =>
    e = .returned (.bool true) ∧ J (pre ++ [x]) W' ∧ W'.heap[bs]? = wr.heap[bs]? ∧ W'.heap[bp]? = wr.heap[bp]? ∧ W'.heap[bv]? = wr.heap[bv]? :=
   fun x hx => hY pre x wr HJ.out (by rw [HP.out]; exact List.mem_append_right _ hx) (by have := List.length_pos_of_mem hx; rw [HP.out, List.length_append]; omega)
  have HIDX : Aside0 (Calls Tryd.prog 65 #[.string ⟨cur.toArray⟩, .string ⟨#[c]⟩] wr fun e w' => e = .returned (.int .i64 (Lib.indexByte cur c)) ∧ w' = wr) := ⟨by simpa using Tryd.strings_Index_one ⟨cur.toArray⟩ c wr⟩
  by_cases hn : Lib.indexByte cur c = -1
  ·have hp1 : partsOf c cur = [⟨cur.toArray⟩] := by unfold partsOf; rw [hsp, if_pos hn]; rfl
   obtain ⟨fn, tmps, assign, body, hy, hR⟩ := hY' ⟨cur.toArray⟩ (by rw [hp1]; exact List.mem_singleton.2 rfl)
   have HY := Aside0.mk hY'
   have HR := Aside0.mk hR
   have HPP := Aside0.mk hp1
   clear hY' hR hp1 hsp
   rw [hn] at HIDX
   gi_wp2_with (fail)
   refine ⟨trivial, ?_⟩
   refine (callsIn_wide.2 HIDX.out).mono ?_
   rintro e W1 ⟨rfl, hw⟩
   rw [hw]
   clear hw
   gi_wp2_with (fail)
   refine HR.out.mono ?_
   rintro e W2 ⟨rfl, hJ2, -⟩
   have HJ2 := Aside0.mk hJ2
   clear hJ2
   gi_wp2
   go_end0
   exact ⟨⟨_, rfl⟩, by rw [HP.out, HPP.out]; exact HJ2.out⟩
  ·obtain ⟨q, hq⟩ : ∃ q : Nat, Lib.indexByte cur c = (q : Int) := ⟨(Lib.indexByte cur c).toNat, by omega⟩
   have hql : q < cur.length := by omega
   rw [if_neg hn, hq, Int.toNat_natCast, List.nil_append] at hsp
   have hx1 : (⟨cur.toArray⟩ : ByteArray).extract 0 q = ⟨(cur.take q).toArray⟩ := by rw [ext_mid]; simp
   have hx2 : (⟨cur.toArray⟩ : ByteArray).extract (q + 1) cur.length = ⟨(cur.drop (q + 1)).toArray⟩ := by rw [← ba_size cur, ext_from]
   have hp1 : partsOf c cur = ⟨(cur.take q).toArray⟩ :: partsOf c (cur.drop (q + 1)) := by unfold partsOf; rw [hsp]; rfl
   obtain ⟨fn, tmps, assign, body, hy, hR⟩ := hY' ((⟨cur.toArray⟩ : ByteArray).extract 0 q) (by rw [hp1, hx1]; exact List.mem_cons_self)
   have HY := Aside0.mk hY'
   have HR := Aside0.mk hR
   have HPP := Aside0.mk hp1
   have HX1 := Aside0.mk hx1
   have HX2 := Aside0.mk hx2
   rw [hq] at HIDX
   have hsz2 : (⟨cur.toArray⟩ : ByteArray).size = cur.length := ba_size cur
   have HSZ := Aside0.mk hsz2
   clear hY' hR hp1 hsp hx1 hx2 hn hge hlt hq
   gi_wp2_with (fail)
   refine ⟨trivial, ?_⟩
   refine (callsIn_wide.2 HIDX.out).mono ?_
   rintro e W1 ⟨rfl, hw⟩
   rw [hw]
   clear hw
   gi_wp2_with (fail)
   refine HR.out.mono ?_
   rintro e W2 ⟨rfl, hJ2, k1, k2, k3⟩
   rw [HX1.out] at hJ2
   have HJ2 := Aside0.mk hJ2
   have HS2 := Aside0.mk (k1.trans HS.out)
   have HB2 := Aside0.mk (k2.trans HB.out)
   have HV2 := Aside0.mk (k3.trans HV.out)
   clear hJ2 k1 k2 k3 hc1 hc2 hc3
   have hc1 : W2.cell? ⟨bp, 0, none⟩ = some (.string ⟨#[c]⟩) := by simp [World.cell?, HB2.out]
   have hc2 : W2.cell? ⟨bs, 0, none⟩ = some (.string ⟨cur.toArray⟩) := by simp [World.cell?, HS2.out]
   have hf2 : W2.frozen? ⟨bs, 0, none⟩ = false := by simp [World.frozen?, HS2.out]
   gi_wp2
   rw [HX2.out]
   refine ⟨⟨pre ++ [⟨(cur.take q).toArray⟩], cur.drop (q + 1), by rw [List.length_drop]; omega, ⟨by rw [HP.out, HPP.out]; simp⟩, ⟨one_setCell HS2.out⟩, ⟨(heap_setCell_other _ _ _ _ (fun e => h1 e.symm)).trans HB2.out⟩, ⟨(heap_setCell_other _ _ _ _ (fun e => h2 e.symm)).trans HV2.out⟩, ⟨hset _ _ _ HJ2.out⟩⟩, ?_⟩
   have m1 : strLeft bs (W2.setCell ⟨bs, 0, none⟩ (.string ⟨(cur.drop (q + 1)).toArray⟩)) = (cur.drop (q + 1)).length := by
    unfold strLeft
    rw [World.cell?_setCell_same' _ _ _ (by rw [hc2]; rfl)]
    exact ba_size _
   have m2 : strLeft bs wr = cur.length := by
    unfold strLeft
    rw [show wr.cell? ⟨bs, 0, none⟩ = some (.string ⟨cur.toArray⟩) by simp [World.cell?, HS.out]]
    exact ba_size _
   rw [m1, m2, List.length_drop]
   omega
end Go.Proofs.YtdbadfcekomomaaDoor.M
end
section
namespace Go.Proofs.YtdbadfcekomomaaDoor.M
open Go.RowKit Go.Proofs.YtdbadfcekomomaaDoorW.PrintWords
set_option linter.unusedVariables false
set_option linter.unusedSimpArgs false
def hexD (c : UInt8) : Nat := if c.toNat ≤ 57 then c.toNat - 48 else c.toNat - 55
def isHexU (c : UInt8) : Bool := decide (48 ≤ c.toNat ∧ c.toNat ≤ 57) || decide (65 ≤ c.toNat ∧ c.toNat ≤ 70)
def hexFold : Nat → List UInt8 → Nat
 | acc, [] => acc
 | acc, c :: l => hexFold (acc * 16 + hexD c) l
def hexNum (l : List UInt8) : Nat := hexFold 0 l
theorem hexD_lt (c : UInt8) (h : isHexU c = true) : hexD c < 16 := by
 simp only [isHexU, Bool.or_eq_true, decide_eq_true_eq] at h
 unfold hexD
 split <;> omega
theorem hexFold_lt : ∀ (l : List UInt8) (acc n : Nat), l.all isHexU = true → acc < 16 ^ n → hexFold acc l < 16 ^ (n + l.length)
 | [], acc, n, _, h => by rw [hexFold]; simpa using h
 | c :: l, acc, n, ha, h => by
  simp only [List.all_cons, Bool.and_eq_true] at ha
  have h1 := hexD_lt c ha.1
  rw [hexFold, List.length_cons, show n + (l.length + 1) = (n + 1) + l.length by omega]
  exact hexFold_lt l _ (n + 1) ha.2 (by rw [Nat.pow_succ]; omega)
theorem or32 (c : Nat) (h0 : 65 ≤ c) (h1 : c ≤ 70) : Go.bits .or .u8 (c : Int) 32 = ((c + 32 : Nat) : Int) := by
 have h : ∀ n : Fin 6, Go.bits .or .u8 ((65 + n.val : Nat) : Int) 32 = ((65 + n.val + 32 : Nat) : Int) := by decide
 have := h ⟨c - 65, by omega⟩
 rw [show 65 + (c - 65) = c by omega] at this
 exact this
theorem lower_same (c : Nat) (h0 : 65 ≤ c) (h1 : c ≤ 70) (w : World) :
  Calls Tryd.prog 77 #[.int .u8 (c : Int)] w fun e w' => e = .returned (.int .u8 ((c : Int) + 32)) ∧ w = w' := by
 have hor := or32 c h0 h1
 have e : ((c + 32 : Nat) : Int) = (c : Int) + 32 := by omega
 rw [e] at hor
 have h2 : (c : Int) + 32 < 256 := by omega
 go_enter Tryd.func77, Tryd.ntmps77
 go_wp2
 go_ret
 exact ⟨rfl, rfl⟩
set_option maxHeartbeats 4000000 in
set_option maxRecDepth 100000 in
theorem ParseUint_hex (t : ByteArray) (h1 : 1 ≤ t.size) (h7 : t.size ≤ 7) (hx : t.data.toList.all isHexU = true) (w : World) :
  Calls Tryd.prog 66 #[.string t, .int .i64 16, .int .i64 32] w fun e w' => e = .returned (.tuple #[.int .u64 (hexNum t.data.toList : Int), .nilIface]) ∧ Below w.heap.size w w' := by
 have hemp : t.toList.isEmpty = false := by
  rw [← decide_eq_emptyBytes]
  exact decide_eq_false (fun h => by rw [h] at h1; exact absurd h1 (by decide))
 have hcv := Lib.run_convert_string_bytes (P := Tryd.prog) w 9 34 5 t (u := .string) Tryd.underlying9 Tryd.underlying34 Tryd.underlying5
 have hB : ∀ j, j < t.size → (Lib.bytesWorld w 5 t).cell? ⟨w.heap.size, j, none⟩ = some (.int .u8 (t.data.toList.getD j 0).toNat) := fun j hj => Lib.bytesWorld_cell w 5 t j hj
 have HBW : Aside0 (Below w.heap.size w (Lib.bytesWorld w 5 t)) := ⟨bytes_below (Below.refl _ w) (Nat.le_refl _) 5 t⟩
 obtain ⟨W1, hW1⟩ : ∃ W1, W1 = Lib.bytesWorld w 5 t := ⟨_, rfl⟩
 rw [← hW1] at hcv hB HBW
 clear hW1
 obtain ⟨bs, hL⟩ : ∃ bs, bs = t.data.toList := ⟨_, rfl⟩
 have hLn : bs.length = t.size := by rw [hL, Lib.size_eq]
 rw [← hL] at hB hx ⊢
 have HX := Aside0.mk hx
 have HB := Aside0.mk hB
 clear hL hx hB
 have hmv : IntKind.u64.wrap (IntKind.u64.wrap 4294967296 - 1) = 4294967295 := by
  rw [IntKind.wrap_u64, IntKind.wrap_u64]
  decide
 go_enter Tryd.func66, Tryd.ntmps66
 go_wp2
 go_loop [12, 13, 101] (fun vu vn vi => ∃ (k acc : Nat) (a : Int), vu = .bool false ∧ vn = .int .u64 a ∧ vi = .int .i64 k ∧ k ≤ t.size ∧ Aside0 (a = (acc : Int) ∧ acc < 16 ^ k ∧ hexNum bs = hexFold acc (bs.drop k)))
  (fun _ _ vi => t.size - (intOf vi).toNat)
 case atStart => exact ⟨0, 0, 0, rfl, rfl, rfl, by omega, ⟨rfl, by decide, rfl⟩⟩
 case round =>
  obtain ⟨k, acc, a, rfl, rfl, rfl, hk, hh⟩ := hrel
  obtain ⟨ha, hacc, hdec⟩ := hh.out
  clear hh
  by_cases hkn : k < t.size
  ·have hc := HB.out k hkn
   have hdrop : bs.drop k = bs[k]'(by omega) :: bs.drop (k + 1) := List.drop_eq_getElem_cons (by omega)
   have hget : bs.getD k 0 = bs[k]'(by omega) := by simp [List.getD, List.getElem?_eq_getElem (show k < bs.length by omega)]
   have hcx : isHexU (bs[k]'(by omega)) = true := List.all_eq_true.1 HX.out _ (List.getElem_mem _)
   rw [hdrop, hexFold] at hdec
   rw [hget] at hc
   generalize bs[k]'(by omega) = c at hc hdec hcx
   have hc256 : c.toNat < 256 := c.toNat_lt
   have hlt : acc < 268435456 := Nat.lt_of_lt_of_le hacc (Nat.le_trans (Nat.pow_le_pow_right (by decide) (show k ≤ 7 by omega)) (by decide))
   have hacc2 : acc * 16 + hexD c < 16 ^ (k + 1) := by have := hexD_lt c hcx; rw [Nat.pow_succ]; omega
   have hd := hexD_lt c hcx
   simp only [isHexU, Bool.or_eq_true, decide_eq_true_eq] at hcx
   have a0 : 0 ≤ a := by omega
   have a1 : a < 268435456 := by omega
   clear hdrop hget
   rcases hcx with hdig | hdig
   ·obtain ⟨hd0, hd1⟩ := hdig
    have hD : hexD c = c.toNat - 48 := by unfold hexD; rw [if_pos hd1]
    have HN : Aside0 (a * 16 + ((c.toNat : Int) - 48) = ((acc * 16 + hexD c : Nat) : Int) ∧ acc * 16 + hexD c < 16 ^ (k + 1) ∧ hexNum bs = hexFold (acc * 16 + hexD c) (bs.drop (k + 1))) := ⟨by omega, hacc2, hdec⟩
    clear hacc hdec ha hacc2 hD hd hlt
    go_wp2
    refine ⟨⟨k + 1, acc * 16 + hexD c, a * 16 + ((c.toNat : Int) - 48), rfl, (by first | rfl | (congr 1; omega)), (by first | rfl | (congr 1; omega)), by omega, HN⟩, by simp [intOf]; omega⟩
   ·obtain ⟨hd0, hd1⟩ := hdig
    have hD : hexD c = c.toNat - 55 := by unfold hexD; rw [if_neg (by omega)]
    have HN : Aside0 (a * 16 + ((c.toNat : Int) - 55) = ((acc * 16 + hexD c : Nat) : Int) ∧ acc * 16 + hexD c < 16 ^ (k + 1) ∧ hexNum bs = hexFold (acc * 16 + hexD c) (bs.drop (k + 1))) := ⟨by omega, hacc2, hdec⟩
    have hor := or32 c.toNat hd0 hd1
    clear hacc hdec ha hacc2 hD hd hlt
    have HLOW := Aside0.mk (lower_same c.toNat hd0 hd1)
    clear hor
    go_wp2_with (go_at_call 77; refine (HLOW.out _).mono ?_; rintro e W2 ⟨rfl, rfl⟩)
    refine ⟨⟨k + 1, acc * 16 + hexD c, a * 16 + ((c.toNat : Int) - 55), rfl, (by first | rfl | (congr 1; omega)), (by first | rfl | (congr 1; omega)), by omega, HN⟩, by simp [intOf]; omega⟩
  ·have hkk : k = t.size := by omega
   subst hkk
   have hF : hexFold acc (bs.drop t.size) = acc := by rw [List.drop_eq_nil_of_le (by omega)]; rfl
   rw [hF] at hdec
   subst ha
   clear hacc hF
   go_wp2
   go_ret2
   exact ⟨rfl, HBW.out⟩
theorem hexNum_lt (l : List UInt8) (h7 : l.length ≤ 7) (hx : l.all isHexU = true) : hexNum l < 268435456 := by
 have h := hexFold_lt l 0 0 hx (by decide)
 rw [Nat.zero_add] at h
 exact Nat.lt_of_lt_of_le h (Nat.le_trans (Nat.pow_le_pow_right (by decide) h7) (by decide))
set_option maxHeartbeats 4000000 in
set_option maxRecDepth 100000 in
theorem ParseIntI_hex (t : ByteArray) (h1 : 1 ≤ t.size) (h7 : t.size ≤ 7) (hx : t.data.toList.all isHexU = true) (w : World) :
  Calls Tryd.prog 50 #[.string t, .int .i64 16, .int .i64 32] w fun e w' => e = .returned (.tuple #[.int .i64 (hexNum t.data.toList : Int), .nilIface]) ∧ Below w.heap.size w w' := by
 have hl := hexNum_lt t.data.toList h7 hx
 have h0 : 0 < t.size := by omega
 have HU := Aside0.mk (ParseUint_hex t h1 h7 hx w)
 obtain ⟨x, hxe⟩ : ∃ x : Int, x = (hexNum t.data.toList : Int) := ⟨_, rfl⟩
 rw [← hxe] at HU ⊢
 have hx0 : 0 ≤ x := by omega
 have hx1 : x < 268435456 := by omega
 have hemp : t.toList.isEmpty = false := by
  rw [← decide_eq_emptyBytes]
  exact decide_eq_false (fun h => by rw [h] at h1; exact absurd h1 (by decide))
 have hc := List.all_eq_true.1 hx (t.data.toList[0]'h0) (List.getElem_mem _)
 have hc2 : t[0]'h0 = t.data.toList[0]'h0 := rfl
 rw [← hc2] at hc
 have h43 : ((t[0]'h0).toNat : Int) ≠ 43 := by
  simp only [isHexU, Bool.or_eq_true, decide_eq_true_eq] at hc
  omega
 have h45 : ((t[0]'h0).toNat : Int) ≠ 45 := by
  simp only [isHexU, Bool.or_eq_true, decide_eq_true_eq] at hc
  omega
 have b43 : (((t[0]'h0).toNat : Int) == 43) = false := by simpa using h43
 have b45 : (((t[0]'h0).toNat : Int) == 45) = false := by simpa using h45
 have hcut : IntKind.u64.wrap 2147483648 = 2147483648 := by decide
 clear hx hc hc2 h43 h45 hl hxe
 go_enter Tryd.func50, Tryd.ntmps50
 go_wp2_with fail
 refine HU.out.mono ?_
 rintro e W1 ⟨rfl, hb⟩
 have HB := Aside0.mk hb
 clear hb
 go_wp2
 go_ret2
 exact ⟨rfl, HB.out⟩
set_option maxHeartbeats 4000000 in
set_option maxRecDepth 100000 in
theorem ParseInt_hex (t : ByteArray) (h1 : 1 ≤ t.size) (h7 : t.size ≤ 7) (hx : t.data.toList.all isHexU = true) (w : World) :
  Calls Tryd.prog 35 #[.string t, .int .i64 16, .int .i64 32] w fun e w' => e = .returned (.tuple #[.int .i64 (hexNum t.data.toList : Int), .nilIface]) ∧ Below w.heap.size w w' := by
 have HU := Aside0.mk (ParseIntI_hex t h1 h7 hx w)
 obtain ⟨x, hxe⟩ : ∃ x : Int, x = (hexNum t.data.toList : Int) := ⟨_, rfl⟩
 rw [← hxe] at HU ⊢
 clear hxe hx
 go_enter Tryd.func35, Tryd.ntmps35
 go_wp2_with fail
 refine HU.out.mono ?_
 rintro e W1 ⟨rfl, hb⟩
 have HB := Aside0.mk hb
 clear hb
 go_wp2
 go_ret2
 exact ⟨rfl, HB.out⟩
end Go.Proofs.YtdbadfcekomomaaDoor.M
end
section
namespace Go.Proofs.YtdbadfcekomomaaDoor.M
open Go Go.RowKit Go.Proofs.YtdbadfcekomomaaDoorW.PrintWords
set_option linter.unusedVariables false
set_option linter.unusedSimpArgs false
theorem wpIn_range_own {P : Program} {n : Nat} {g : Operand} {p : Tmp} {assign body : Code} {Q : Exit → Act → World → Prop} {a : Act} {w : World} {gf : Nat} {lb : Array Value}
  (hg : a.eval g = .func (.func gf) #[] lb) (eg : ∀ args w, (callFunc gf args).run P w = .ok (.enter gf args) w)
  (xs : List ByteArray) (bs : Nat) (hbs : bs < w.heap.size) (keep : World → World → Prop) (hkt : ∀ {A B C : World}, keep A B → keep B C → keep A C) (hkput : ∀ (A : World) (o : Obj), keep A (A.putObj (w.heap.size + 1) o))
  (hseq : ∀ (J : List ByteArray → World → Prop) (W : World), (∀ pre A v, J pre A → J pre (A.setCell ⟨bs, 0, none⟩ v)) →
   (∀ pre x A, J pre A → x ∈ xs → pre.length < xs.length → YieldAt Fence.wide 0 P (w.heap.size + 1) #[.string x] A fun e W' => e = .returned (.bool true) ∧ J (pre ++ [x]) W' ∧ keep A W') →
   (∀ k, k < w.heap.size → W.heap[k]? = w.heap[k]?) → J [] W → CallsIn Fence.wide (n - 1) P gf (#[.func (.yield (w.heap.size + 1)) #[] #[]] ++ lb) W fun e W' => (∃ v, e = .returned v) ∧ J xs W')
  (I : List ByteArray → World → Prop) (hIput : ∀ pre (A : World) o, I pre A → I pre (A.putObj (w.heap.size + 1) o)) (hIset : ∀ pre (A : World) v, I pre A → I pre (A.setCell ⟨bs, 0, none⟩ v))
  (h0 : ∀ o, I [] ((w.alloc (.deferred (some []))).alloc o)) (a₁ : ByteArray → Act)
  (hassign : ∀ (l : Nat) (x : ByteArray) (W : World) (K : Act → World → Prop), K (a₁ x) W → assign.wpIn (Fence.wide.inRound l) 0 P (Exit.then K (fun _ _ _ => False)) { tmps := (#[p].zip #[Value.string x]).foldl (fun t (p, v) => t.setIfInBounds p v) a.tmps, defers := [] } W)
  (hbody : ∀ (l : Nat) (pre : List ByteArray) (x : ByteArray) (A : World), I pre A → x ∈ xs → pre.length < xs.length → w.heap.size + 2 ≤ A.heap.size → body.wpIn (Fence.wide.inRound l) 0 P (fun e _ W' => e = .normal ∧ I (pre ++ [x]) W' ∧ keep A W' ∧ W'.heap[w.heap.size + 1]? = A.heap[w.heap.size + 1]? ∧ W'.heap[w.heap.size]? = A.heap[w.heap.size]?) (a₁ x) A)
  (hdone : ∀ (W : World), I xs W → W.heap[w.heap.size]? = some (.deferred (some [])) → Q .normal { a with defers := { target := .collected w.heap.size, args := #[] } :: a.defers } W) :
  (Code.rangeFunc g #[p] assign body).wpIn Fence.wide n P Q a w := by
 refine wpIn_rangeFunc ?_
 intro fn hfn
 obtain ⟨rec, hrec⟩ : ∃ rec : LoopState → Option Code → Loop, rec = fun st pe => { state := st, pending := pe, fn, tmps := a.tmps, params := #[p], assign, body, defers := w.heap.size } := ⟨_, rfl⟩
 obtain ⟨W1, hW1⟩ : ∃ W1, (w.alloc (.deferred (some []))).alloc (.loop (rec .ready none)) = W1 := ⟨_, rfl⟩
 have hL1 : W1.heap[w.heap.size + 1]? = some (.loop (rec .ready none)) := by
  rw [← hW1]; have := World.alloc_heap_new (w.alloc (.deferred (some []))) (.loop (rec .ready none)); rwa [World.size_alloc] at this
 have hK1 : W1.heap[w.heap.size]? = some (.deferred (some [])) := by
  rw [← hW1]; exact (Below.heap_alloc _ _ _ (by simp)).trans (World.alloc_heap_new w _)
 have hlow : ∀ k, k < w.heap.size → W1.heap[k]? = w.heap[k]? := by
  intro k hk
  rw [← hW1, Below.heap_alloc _ _ _ (by simp; omega), Below.heap_alloc _ _ _ hk]
 refine ⟨w.heap.size + 1, [{ target := .collected w.heap.size, args := #[] }], W1, { target := .fn (.func gf) lb, args := #[.func (.yield (w.heap.size + 1)) #[] #[]] }, W1, gf,
  #[.func (.yield (w.heap.size + 1)) #[] #[]] ++ lb, W1, ?_, ?_, fun _ _ => trivial, ?_, fun h => by simp [Fence.wide] at h, ?_⟩
 ·rw [← hW1, hrec]; exact run_enterLoop_outer _ _ _ _ _
 ·simp only [resolve, hg]
  simp [go_sem]
 ·simp [invoke, go_sem, eg]
 ·refine (hseq (fun pre W => I pre W ∧ W.heap[w.heap.size + 1]? = some (.loop (rec .ready none)) ∧ W.heap[w.heap.size]? = some (.deferred (some []))) W1
   (fun pre A v hh => ⟨hIset pre A v hh.1, (Below.heap_setCell A _ v _ (by show w.heap.size + 1 ≠ bs; omega)).trans hh.2.1, (Below.heap_setCell A _ v _ (by show w.heap.size ≠ bs; omega)).trans hh.2.2⟩)
   ?_ hlow ⟨by rw [← hW1]; exact h0 _, hL1, hK1⟩).mono ?_
  ·rintro pre x W ⟨hi, hl, hk⟩ hx hxl
   have hlt : w.heap.size + 1 < W.heap.size := (Array.getElem?_eq_some_iff.1 hl).1
   have hy := run_yield (P := P) (args := #[.string x]) hl (by rw [hrec]; rfl)
   rw [hrec] at hy
   refine ⟨fn, _, assign, body, hy, roundIn_of_wpIn hfn ?_⟩
   refine hassign _ x W _ ⟨_, run_beginRound hl (by rw [hrec]), ?_⟩
   have hl2 : (W.putObj (w.heap.size + 1) (.loop { rec .ready none with state := .busy })).heap[w.heap.size + 1]? = some (.loop { rec .ready none with state := .busy }) := World.putObj_heap_same hlt
   have hk2 : (W.putObj (w.heap.size + 1) (.loop { rec .ready none with state := .busy })).heap[w.heap.size]? = some (.deferred (some [])) := (World.putObj_heap_other (by omega)).trans hk
   refine wpIn_mono (hbody _ pre x _ (hIput _ _ _ hi) hx hxl (by rw [World.putObj_size]; omega)) ?_
   rintro e a3 W3 ⟨rfl, hi3, hkp3, hl3, hk3⟩
   have hl4 := hl3.trans hl2
   have hr := run_endRound (P := P) none hl4
   refine ⟨_, _, hr, rfl, ⟨hIput _ _ _ hi3, ?_, (World.putObj_heap_other (by omega)).trans (hk3.trans hk2)⟩, hkt (hkt (hkput W _) hkp3) (hkput W3 _)⟩
   rw [World.putObj_heap_same (Array.getElem?_eq_some_iff.1 hl4).1, hrec]
   rfl
  ·rintro e W2 ⟨⟨v, rfl⟩, hi, hl, hk⟩
   exact ⟨none, _, by have := run_endLoop (P := P) hl (by rw [hrec]; simp); rw [hrec] at this; exact this, hdone _ (hIput _ _ _ hi) ((World.putObj_heap_other (by omega)).trans hk)⟩
end Go.Proofs.YtdbadfcekomomaaDoor.M
end
section
namespace Go.Proofs.YtdbadfcekomomaaDoor.M
open Go.RowKit Go.Shelf Go.Proofs.YtdbadfcekomomaaDoorW.PrintWords Go.Proofs.YtdbadfcekomomaaDoorW.PrintLast
set_option linter.unusedVariables false
set_option linter.unusedSimpArgs false
attribute [local go_sem] Oper.semAt_some
def isPart (p : ByteArray) : Bool := decide (1 ≤ p.size) && decide (p.size ≤ 7) && p.data.toList.all isHexU
def glyph_values.f (a0 : ByteArray) : Option (List Int) := if a0.size ≤ 1000000 ∧ (partsOf 44 a0.data.toList).all isPart = true then some ((partsOf 44 a0.data.toList).map fun p => (hexNum p.data.toList : Int)) else none
theorem SplitSeq_calls (s : ByteArray) (c : UInt8) (W : World) :
  Calls Tryd.prog 34 #[.string s, .string ⟨#[c]⟩] W fun e W' => e = .returned (.func (.func 63) #[] #[.pointer (some ⟨W.heap.size + 1, 0, none⟩), .pointer (some ⟨W.heap.size, 0, none⟩), .pointer (some ⟨W.heap.size + 2, 0, none⟩)]) ∧
   W' = ((W.alloc (.cells #[.string s] 9)).alloc (.cells #[.string ⟨#[c]⟩] 9)).alloc (.cells #[.int .i64 0] 3) := by
 have h80 : Calls Tryd.prog 49 #[.string s, .string ⟨#[c]⟩, .int .i64 0] W fun e W' => e = .returned (.func (.func 63) #[] #[.pointer (some ⟨W.heap.size + 1, 0, none⟩), .pointer (some ⟨W.heap.size, 0, none⟩), .pointer (some ⟨W.heap.size + 2, 0, none⟩)]) ∧
   W' = ((W.alloc (.cells #[.string s] 9)).alloc (.cells #[.string ⟨#[c]⟩] 9)).alloc (.cells #[.int .i64 0] 3) := by
  go_enter Tryd.func49, Tryd.ntmps49
  go_wp2
  go_ret
  exact ⟨rfl, rfl⟩
 have H80 := Aside0.mk h80
 clear h80
 go_enter Tryd.func34, Tryd.ntmps34
 go_wp2_with fail
 refine H80.out.mono ?_
 rintro e W' ⟨rfl, hW⟩
 rw [hW]
 clear hW
 go_wp2
 go_ret
 exact ⟨rfl, rfl⟩
theorem splitB_len (c : UInt8) : ∀ (s w : List UInt8), (splitB c s w).length ≤ s.length + 1
 | [], w => by simp [splitB]
 | x :: r, w => by
  have h1 := splitB_len c r []
  have h2 := splitB_len c r (w ++ [x])
  simp only [splitB, List.length_cons]
  split
  ·simp only [List.length_cons]; omega
  ·omega
theorem partsOf_length (c : UInt8) (s : ByteArray) (h : s.size ≤ 1000000) : (partsOf c s.data.toList).length ≤ 1000001 := by
 unfold partsOf
 rw [List.length_map]
 have := splitB_len c s.data.toList []
 have e : s.data.toList.length = s.size := rfl
 omega
set_option maxRecDepth 100000 in
set_option maxHeartbeats 1000000 in
theorem glyph_values.calls (a0 : ByteArray) (r : List Int) (w : World) (h : glyph_values.f a0 = some r) :
  Calls Tryd.prog 20 #[.string a0] w fun e w' => ∃ v0_ : Value, e = .returned (v0_) ∧ Kd.R (Kd.int .i64) 3 w' w.heap.size (fun _ => True) v0_ r ∧ Below w.heap.size w w' := by
 unfold glyph_values.f at h
 split at h
 case isFalse => cases h
 rename_i hb
 obtain ⟨hb1, hb2⟩ := hb
 replace h := Option.some.inj h
 have HR := Aside0.mk h
 have HB2 := Aside0.mk hb2
 clear h hb2
 have HSP := Aside0.mk (fun W => callsIn_wide (n := 2).2 (SplitSeq_calls a0 44 W))
 refine (callsIn_wide (n := 3)).1 ?_
 refine callsIn_of_wp_marks Tryd.func20 rfl trivial ?_ rfl
 simp only [Tryd.ntmps20, List.size_toArray, List.length_cons, List.length_nil, Nat.reduceAdd, Nat.reduceSub, Array.replicate_succ, Array.replicate_zero, List.push_toArray, List.append_toArray, List.nil_append, List.cons_append]
 gi_wp2_with fail
 refine ⟨trivial, ?_⟩
 refine (HSP.out _).mono ?_
 rintro e W1 ⟨rfl, hw⟩
 rw [hw]
 clear hw HSP
 gi_wp2_with fail
 obtain ⟨w4, hw4⟩ : ∃ w4, ((((w.alloc (Obj.cells #[Value.slice none 0 0] 23)).alloc (Obj.cells #[Value.string a0] 9)).alloc (Obj.cells #[Value.string ⟨#[44]⟩] 9)).alloc (Obj.cells #[Value.int IntKind.i64 0] 3)) = w4 := ⟨_, rfl⟩
 have hs4 : w4.heap.size = w.heap.size + 4 := by rw [← hw4]; simp
 have hb4 : Below w.heap.size w w4 := by rw [← hw4]; exact below_alloc (below_alloc (below_alloc (below_alloc (Below.refl _ w) _) _) _) _
 have g0 : w4.heap[w.heap.size]? = some (.cells #[.slice none 0 0] 23 (0, 0)) := by
  rw [← hw4, Below.heap_alloc _ _ _ (by simp only [World.size_alloc]; omega), Below.heap_alloc _ _ _ (by simp only [World.size_alloc]; omega), Below.heap_alloc _ _ _ (by simp only [World.size_alloc]; omega)]; exact World.alloc_heap_new w _
 have g1 : w4.heap[w.heap.size + 1]? = some (.cells #[.string a0] 9 (0, 0)) := by
  rw [← hw4, Below.heap_alloc _ _ _ (by simp only [World.size_alloc]; omega), Below.heap_alloc _ _ _ (by simp only [World.size_alloc]; omega)]
  have := World.alloc_heap_new (w.alloc (Obj.cells #[Value.slice none 0 0] 23)) (Obj.cells #[Value.string a0] 9)
  rwa [World.size_alloc] at this
 have g2 : w4.heap[w.heap.size + 2]? = some (.cells #[.string ⟨#[44]⟩] 9 (0, 0)) := by
  rw [← hw4, Below.heap_alloc _ _ _ (by simp only [World.size_alloc]; omega)]
  have := World.alloc_heap_new ((w.alloc (Obj.cells #[Value.slice none 0 0] 23)).alloc (Obj.cells #[Value.string a0] 9)) (Obj.cells #[Value.string ⟨#[44]⟩] 9)
  rwa [World.size_alloc, World.size_alloc] at this
 have g3 : w4.heap[w.heap.size + 3]? = some (.cells #[.int .i64 0] 3 (0, 0)) := by
  rw [← hw4]
  have := World.alloc_heap_new (((w.alloc (Obj.cells #[Value.slice none 0 0] 23)).alloc (Obj.cells #[Value.string a0] 9)).alloc (Obj.cells #[Value.string ⟨#[44]⟩] 9)) (Obj.cells #[Value.int IntKind.i64 0] 3)
  rwa [World.size_alloc, World.size_alloc, World.size_alloc] at this
 rw [hw4]
 have HG0 := Aside0.mk g0
 have HG1 := Aside0.mk g1
 have HG2 := Aside0.mk g2
 have HG3 := Aside0.mk g3
 have HB4 := Aside0.mk hb4
 clear g0 g1 g2 g3 hb4 hw4
 have hinfo : (Tryd.prog.info? 3).map (fun i => (i.zero, i.size, i.bytes)) = some (some (.int .i64 0), 1, 8) := by kernel_rfl
 obtain ⟨i0, hi, hz0, hz1, hz2⟩ := info_parts hinfo
 clear hinfo
 have hpl : (partsOf 44 a0.data.toList).length ≤ 1000001 := partsOf_length 44 a0 hb1
 refine wpIn_range_own (gf := 63) (lb := #[.pointer (some ⟨w.heap.size + 1 + 1, 0, none⟩), .pointer (some ⟨w.heap.size + 1, 0, none⟩), .pointer (some ⟨w.heap.size + 1 + 2, 0, none⟩)]) rfl (enters_of Tryd.func63 (by kernel_rfl) rfl)
  (partsOf 44 a0.data.toList) (w.heap.size + 1) (by omega) (fun A B => ∀ k, w.heap.size < k → k < w.heap.size + 4 → B.heap[k]? = A.heap[k]?) (fun h1 h2 k a b => (h2 k a b).trans (h1 k a b)) (fun A o k a b => World.putObj_heap_other (by omega))
  ?seq (fun pre W => pre.length ≤ 1000001 ∧ (∃ v, W.heap[w.heap.size]? = some (.cells #[v] 23 (0, 0)) ∧ W.ownsRow (w4.heap.size + 2) 3 1 v pre.length (pre.map fun x => Value.int .i64 (hexNum x.data.toList : Int))) ∧ Below w.heap.size w W)
  ?put ?set ?start
  (fun x => { tmps := #[.string a0, undef, .slice none 0 0, .pointer (some ⟨w.heap.size, 0, none⟩), .string x, undef, undef, .string a0, .func (.func 63) #[] #[.pointer (some ⟨w.heap.size + 1 + 1, 0, none⟩), .pointer (some ⟨w.heap.size + 1, 0, none⟩), .pointer (some ⟨w.heap.size + 1 + 2, 0, none⟩)], .string x, undef, undef, undef, undef, undef, undef, undef, undef, undef, undef], defers := [] })
  ?assign ?body ?done
 case seq =>
  intro J W hset hY hlow h0
  refine callsIn_wide.2 (callsIn_wide.1 (splitSeq_in (w4.heap.size + 1) (w.heap.size + 1) (w.heap.size + 1 + 1) (w.heap.size + 1 + 2) 44 a0 hb1 (by omega) (by omega) J hset ?_ W ?_ ?_ ?_ h0))
  ·intro pre x A hj hx hxl
   obtain ⟨fn, tmps, assign, body, hy, hR⟩ := hY pre x A hj hx hxl
   exact ⟨fn, tmps, assign, body, hy, hR.mono (fun e W' h => ⟨h.1, h.2.1, h.2.2 _ (by omega) (by omega), h.2.2 _ (by omega) (by omega), h.2.2 _ (by omega) (by omega)⟩)⟩
  ·exact (hlow _ (by omega)).trans HG1.out
  ·exact (hlow _ (by omega)).trans HG2.out
  ·exact (hlow _ (by omega)).trans HG3.out
 case put =>
  rintro pre A o ⟨h1, ⟨v, h2, h3⟩, h4⟩
  refine ⟨h1, ⟨v, (World.putObj_heap_other (by omega)).trans h2, own_move h3 (fun k hk => World.putObj_heap_other (by have := own_base h3 k hk; omega))⟩, ?_⟩
  exact h4.grown (grownBy_putObj' A _ o) h4.size (fun k e => by cases e; omega)
 case set =>
  rintro pre A u ⟨h1, ⟨v, h2, h3⟩, h4⟩
  exact ⟨h1, ⟨v, (Below.heap_setCell A _ u _ (by show w.heap.size ≠ w.heap.size + 1; omega)).trans h2, ownsRow_setCell_below h3 (by show w.heap.size + 1 < w4.heap.size + 2; omega) u⟩, h4.setCell (by show w.heap.size ≤ w.heap.size + 1; omega) u⟩
 case start =>
  intro o
  refine ⟨by simp, ⟨.slice none 0 0, ?_, World.ownsRow_nil _ _ _ _⟩, below_alloc (below_alloc HB4.out _) _⟩
  rw [Below.heap_alloc _ _ _ (by simp; omega), Below.heap_alloc _ _ _ (by omega)]
  exact HG0.out
 case assign =>
  intro l x W K hK
  gi_wp2
  exact hK
 case body =>
  rintro l pre x A ⟨h1, ⟨v, h2, h3⟩, h4⟩ hx hxl hsz
  have hpre : pre.length + 1 ≤ 1000001 := by omega
  have hc : A.cell? ⟨w.heap.size, 0, none⟩ = some v := by simp [World.cell?, h2]
  have hp := List.all_eq_true.1 HB2.out x hx
  simp only [isPart, Bool.and_eq_true, decide_eq_true_eq] at hp
  have HPI := Aside0.mk (fun n W => CallsIn.inRound l (callsIn_wide (n := n).2 (ParseInt_hex x hp.1.1 hp.1.2 hp.2 W)))
  obtain ⟨z, hz⟩ : ∃ z : Int, z = (hexNum x.data.toList : Int) := ⟨_, rfl⟩
  rw [← hz] at HPI
  have HZ := Aside0.mk hz
  have H2 := Aside0.mk h2
  have H3 := Aside0.mk h3
  have H4 := Aside0.mk h4
  clear hz hp h2 h3 h4
  gi_wp2_with fail
  refine ⟨trivial, rfl, ?_⟩
  refine (HPI.out _ _).mono ?_
  rintro e W2 ⟨rfl, hb⟩
  have hs2 : w4.heap.size + 2 ≤ W2.heap.size := Nat.le_trans hsz hb.size
  have hrow : W2.ownsRow (w4.heap.size + 2) 3 1 v pre.length (pre.map fun x => Value.int .i64 (hexNum x.data.toList : Int)) := own_move H3.out (fun k hk => hb.block k (own_lt H3.out k hk))
  have HK : Aside0 (∀ k, k < w4.heap.size + 2 → W2.heap[k]? = A.heap[k]?) := ⟨fun k hk => hb.block k (by omega)⟩
  have HBW : Aside0 (Below w.heap.size w W2) := ⟨below_step H4.out hb⟩
  have HV2 : Aside0 (W2.heap[w.heap.size]? = some (.cells #[v] 23 (0, 0))) := ⟨(HK.out _ (by omega)).trans H2.out⟩
  have hc2 : W2.cell? ⟨w.heap.size, 0, none⟩ = some v := by simp [World.cell?, HV2.out]
  clear hc hb H2 H3 H4 HPI
  have HROW := Aside0.mk hrow
  clear hrow
  gi_wp2_with (gi_at_builtin; refine wpListIn_append_own _ rfl _ _ 23 rfl (w4.heap.size + 2) 3 i0 (.int .i64 0) 1 8 Tryd.underlying23 hi hz0 hz1 hz2 rfl (by decide) v pre.length _ ?c1 (HROW.out.alloc _) ⟨W2.heap.size, 0, none⟩ 1 1 [.int .i64 z] ?c2 rfl (cell_one_new _ _ _) (by simp [Value.oneCell']) (by unfold maxLen; omega) (by omega) (by simp; omega) ?_)
  case c1 => rfl
  case c2 => rfl
  intro v' w1 hown' hgrow _
  obtain ⟨g', cap', rfl⟩ := ownsRow_succ hown'
  have HOWN := Aside0.mk hown'
  have HKEEP : Aside0 (∀ k, k < w4.heap.size + 2 → w1.heap[k]? = W2.heap[k]?) := ⟨fun k hk => (hgrow.block k (by simp; omega) (fun e => by have := own_base HROW.out k e.symm; omega)).trans (Below.heap_alloc _ _ _ (by omega))⟩
  have HBW1 : Aside0 (Below w.heap.size w w1) := ⟨(below_alloc HBW.out _).grown hgrow (by have := HBW.out.size; simp; omega) (fun k e => by have := own_base HROW.out k e; omega)⟩
  have HV1 : Aside0 (w1.heap[w.heap.size]? = some (.cells #[v] 23 (0, 0))) := ⟨(HKEEP.out _ (by omega)).trans HV2.out⟩
  have hc1 : w1.cell? ⟨w.heap.size, 0, none⟩ = some v := by simp [World.cell?, HV1.out]
  have hf1 : w1.frozen? ⟨w.heap.size, 0, none⟩ = false := by simp [World.frozen?, HV1.out]
  clear hown' hgrow hc2
  gi_wp2
  have hoth := fun k (hk : k ≠ w.heap.size) => Below.heap_setCell w1 ⟨w.heap.size, 0, none⟩ (.slice (some ⟨g', 0, none⟩) (pre.length + 1) cap') k hk
  refine ⟨⟨⟨_, one_setCell HV1.out, ?_⟩, HBW1.out.setCell (Nat.le_refl _) _⟩, fun k a b => ?_, ?_, ?_⟩
  ·have := ownsRow_setCell_below HOWN.out (a := ⟨w.heap.size, 0, none⟩) (by show w.heap.size < w.heap.size + 4 + 2; omega) (.slice (some ⟨g', 0, none⟩) (pre.length + 1) cap')
   rw [HZ.out] at this
   exact this
  ·rw [hoth k (by omega), HKEEP.out k (by omega), HK.out k (by omega)]
  ·rw [hoth _ (by omega), HKEEP.out _ (by omega), HK.out _ (by omega)]
  ·rw [hoth _ (by omega), HKEEP.out _ (by omega), HK.out _ (by omega)]
 case done =>
  rintro W ⟨h1, ⟨v, h2, h3⟩, h4⟩ hK
  have hc : W.cell? ⟨w.heap.size, 0, none⟩ = some v := by simp [World.cell?, h2]
  gi_wp2
  refine ⟨by simp, .inl ⟨_, _, rfl, run_takeDeferred hK, ?_⟩⟩
  refine ⟨_, results_tmp rfl _ _ _, v, rfl, ?_, h4.grown (grownBy_putObj' W _ _) h4.size (fun k e => by cases e; omega)⟩
  refine Kd.R_of_own ?_ (fun _ _ => trivial)
  rw [← HR.out, List.length_map]
  have := own_weaken (base' := w.heap.size) (own_move (w1 := W.putObj w4.heap.size (.deferred none)) h3 (fun k hk => World.putObj_heap_other (by have := own_base h3 k hk; omega))) (by omega)
  unfold encs
  rw [List.map_map]
  exact this
end Go.Proofs.YtdbadfcekomomaaDoor.M
end
section
namespace Go.Proofs.YtdbadfcekomomaaDoor.M
open Go.RowKit Go.Proofs.YtdbadfcekomomaaDoorW.PrintWords Go.Proofs.YtdbadfcekomomaaDoorW.PrintLast Go.Proofs.YtdbadfcekomomaaDoorW.PrintMore
attribute [local go_sem] max2_int min2_int max_two min_two max_three min_three max_four min_four
set_option linter.unusedVariables false
set_option linter.unusedSimpArgs false
def glyph_Uni.j0 : Nat → ByteArray → Bool → Option (List Int × Bool)
 | 0, _, _ => none
 | k + 1, x0, x15 => if x15 = true then (some (([] : List Int), false)) else ((glyph_list.f k).bind fun t129 => (if 1 + x0.size ≤ 9223372036854775807 then (if ((⟨#[32]⟩ : ByteArray) ++ x0).size + 1 ≤ 9223372036854775807 then ((strings_Cut.f t129 (((⟨#[32]⟩ : ByteArray) ++ x0) ++ (⟨#[61]⟩ : ByteArray))).bind fun bt130 => (if bt130.2.2 = true then ((strings_Cut.f bt130.2.1 (⟨#[32]⟩ : ByteArray)).bind fun bt133 => ((glyph_values.f bt133.1).bind fun t136 => (some (t136, true)))) else (some (([] : List Int), false)))) else (none)) else (none)))
def glyph_Uni.f (k : Nat) (a0 : ByteArray) : Option (List Int × Bool) := if a0.toList = ([] : List UInt8) then (glyph_Uni.j0 k a0 true) else ((strings_ContainsAny.f a0 (⟨#[32, 61]⟩ : ByteArray)).bind fun t128 => (glyph_Uni.j0 k a0 t128))
theorem glyph_Uni.mono_l : ∀ k, (∀ y0 y1, LeO (glyph_Uni.j0 k y0 y1) (glyph_Uni.j0 (k + 1) y0 y1))
 | 0 => fun _ _ r h => by simp [glyph_Uni.j0] at h
 | k + 1 => by
  have ih0 := glyph_Uni.mono_l k
  ·intro y0 y1
   unfold glyph_Uni.j0
   repeat' first
   | (with_reducible exact ih0 _ _)
   | (with_reducible exact glyph_list.mono _)
   | (with_reducible exact LeO.refl _)
   | (with_reducible exact LeO.none _)
   | (with_reducible refine LeO.ite ?_ ?_)
   | (with_reducible refine LeO.bind ?_ (fun _ => ?_))
   | exact ih0 _ _
   | exact glyph_list.mono _
   | exact LeO.none _
   | refine LeO.ite ?_ ?_
   | refine LeO.bind ?_ (fun _ => ?_)
theorem glyph_Uni.mono : ∀ a0 k, LeO (glyph_Uni.f k a0) (glyph_Uni.f (k + 1) a0) := by
 intro a0 k
 have ih0 := glyph_Uni.mono_l k
 unfold glyph_Uni.f
 repeat' first
   | (with_reducible exact ih0 _ _)
   | (with_reducible exact glyph_list.mono _)
   | (with_reducible exact LeO.refl _)
   | (with_reducible exact LeO.none _)
   | (with_reducible refine LeO.ite ?_ ?_)
   | (with_reducible refine LeO.bind ?_ (fun _ => ?_))
   | exact ih0 _ _
   | exact glyph_list.mono _
   | exact LeO.none _
   | refine LeO.ite ?_ ?_
   | refine LeO.bind ?_ (fun _ => ?_)
set_option maxHeartbeats 8000000 in
set_option maxRecDepth 100000 in
theorem glyph_Uni.calls (k : Nat) (a0 : ByteArray) (r1 : List Int) (r2 : Bool) (w : World) (hG : GW w) (h : glyph_Uni.f k a0 = some (r1, r2)) :
  Calls Tryd.prog 7 #[.string a0] w fun e w' => ∃ v0_ : Value, e = .returned (.tuple #[v0_, .bool r2]) ∧ Kd.R (Kd.int .i64) 3 w' w.heap.size (fun _ => True) v0_ r1 ∧ Below w.heap.size w w' := by
 have HG := aM hG
 clear hG
 have HB := aM (Below.refl w.heap.size w)
 have H : (if a0.toList = ([] : List UInt8) then (glyph_Uni.j0 k a0 true) else ((strings_ContainsAny.f a0 (⟨#[32, 61]⟩ : ByteArray)).bind fun t128 => (glyph_Uni.j0 k a0 t128))) = some (r1, r2) := h
 clear h
 have HC2 := aM H
 clear H
 go_enter Tryd.func7, Tryd.ntmps7
 go_upto_region 1 with (fail)
 go_cut [15] (fun v15 wc => ∃ (kq : Nat) (x15_1 : Bool), v15 = .bool x15_1 ∧ Aside0 (glyph_Uni.j0 kq a0 x15_1 = some (r1, r2)) ∧ Aside0 (kq ≤ k) ∧ Aside0 (Below w.heap.size w wc))
 case first =>
  have H := HC2.out
  clear HC2
  refine iEc H ?_ ?_<;>clear H<;>intro H c3b0 c3b1 c3
  ·clear c3
   (first | rw [c3b0] | (simp only [i64_w, i32_w]; rw [c3b0]) | skip)
   have H' := aM H
   clear H
   go_wp2
   go_meet
   case rel => exact ⟨_, (true), vQ, H', ⟨by first | omega | exact Nat.le_refl _⟩, ⟨bQ⟩⟩
  (first | rw [c3b0] | (simp only [i64_w, i32_w]; rw [c3b0]) | skip)
  replace H := bS H
  obtain ⟨t128, A4, H⟩ := H
  try dsimp only at H
  have H' := aM H
  clear H
  go_wp2_with (first | (go_at_call 17; (with_reducible refine (strings_ContainsAny.calls a0 (⟨#[32, 61]⟩ : ByteArray) t128 _ A4.out).mono ?_); rintro e w5 ⟨rfl, hb⟩; replace HB := sB hb; clear hb))
  go_meet
  case rel => exact ⟨_, (t128), vQ, H', ⟨by first | omega | exact Nat.le_refl _⟩, ⟨bQ⟩⟩
 case rest =>
  clear HC2
  try clear p2
  try clear c3
  try clear c3b0
  try clear c3b1
  obtain ⟨kq, x15_1, rfl, HA, HJ1, HB⟩ := hcut
  cases kq with
  | zero => exact absurd HA.out (by simp [glyph_Uni.j0])
  | succ kj1 =>
   have H := HA.out
   clear HA
   simp only [glyph_Uni.j0] at H
   by_cases c6 : x15_1 = true
   ·subst c6
    rw [if_pos rfl] at H
    simp only [Option.some.injEq, Prod.mk.injEq] at H
    obtain ⟨rfl, rfl⟩ := H
    go_wp2
    go_ret2
    exact ⟨_, eQ, by first | exact Kd.R_nil _ _ _ _ _ | exact Kd.N_nil _ _ _ _ _ | exact Kd.V_nil _ _ _ _ _ | exact Kd.Q_nil _ _ _ _ _ | exact Kd.S_nil _ _ _ _ _, bQ⟩
   replace c6 := Bool.eq_false_iff.mpr c6
   subst c6
   rw [if_neg (show ¬ (false = true) by decide)] at H
   replace H := bS H
   obtain ⟨t129, A7, H⟩ := H
   try dsimp only at H
   refine iNc H ?_ ?_<;>clear H<;>intro H c8
   rotate_left
   ·exact absurd H (by simp)
   have c8b0 := eq_true c8
   have c8b1 : decide (1 + a0.size ≤ 9223372036854775807) = true := decide_eq_true c8
   try have c8b2 : (9223372036854775807 < 1 + a0.size) = False := eq_false (Nat.not_lt.2 c8)
   refine iNc H ?_ ?_<;>clear H<;>intro H c9
   rotate_left
   ·exact absurd H (by simp)
   have c9b0 := eq_true c9
   have c9b1 : decide (((⟨#[32]⟩ : ByteArray) ++ a0).size + 1 ≤ 9223372036854775807) = true := decide_eq_true c9
   try have c9b2 : (9223372036854775807 < ((⟨#[32]⟩ : ByteArray) ++ a0).size + 1) = False := eq_false (Nat.not_lt.2 c9)
   try have c9b9 : (9223372036854775807 < (1 + a0.size) + 1) = False := eq_false (Nat.not_lt.2 (by have h_ := c9; (repeat rw [ByteArray.size_append] at h_); exact h_))
   replace H := bS H
   obtain ⟨⟨t130, t131, t132⟩, A10, H⟩ := H
   try dsimp only at H
   by_cases c11 : t132 = true
   rotate_left
   ·replace c11 := Bool.eq_false_iff.mpr c11
    subst c11
    rw [if_neg (show ¬ (false = true) by decide)] at H
    simp only [Option.some.injEq, Prod.mk.injEq] at H
    obtain ⟨rfl, rfl⟩ := H
    go_wp2_with (first | ((with_reducible refine gC 19 ?_); refine gL (some 17) Tryd.func19 #[] ?_; (with_reducible refine cB (glyph_list.calls kj1  t129 _ A7.out) ?_); intro w18 hb; replace HB := sB hb; clear hb) | ((with_reducible refine gC 18 ?_); refine gL (some 21) Tryd.func18 #[.string t129, .string (((⟨#[32]⟩ : ByteArray) ++ a0) ++ (⟨#[61]⟩ : ByteArray))] ?_; (with_reducible refine cB (strings_Cut.calls t129 (((⟨#[32]⟩ : ByteArray) ++ a0) ++ (⟨#[61]⟩ : ByteArray)) t130 t131 false _ ?side1 A10.out) ?_); (case side1 => exact gQ HG.out); intro w19 hb; replace HB := sB hb; clear hb))
    go_ret2
    exact ⟨_, eQ, by first | exact Kd.R_nil _ _ _ _ _ | exact Kd.N_nil _ _ _ _ _ | exact Kd.V_nil _ _ _ _ _ | exact Kd.Q_nil _ _ _ _ _ | exact Kd.S_nil _ _ _ _ _, bQ⟩
   subst c11
   rw [if_pos rfl] at H
   replace H := bS H
   obtain ⟨⟨t133, t134, t135⟩, A12, H⟩ := H
   try dsimp only at H
   replace H := bS H
   obtain ⟨t136, A13, H⟩ := H
   try dsimp only at H
   simp only [Option.some.injEq, Prod.mk.injEq] at H
   obtain ⟨rfl, rfl⟩ := H
   go_wp2_with (first | ((with_reducible refine gC 19 ?_); refine gL (some 17) Tryd.func19 #[] ?_; (with_reducible refine cB (glyph_list.calls kj1  t129 _ A7.out) ?_); intro w14 hb; replace HB := sB hb; clear hb) | ((with_reducible refine gC 18 ?_); refine gL (some 21) Tryd.func18 #[.string t129, .string (((⟨#[32]⟩ : ByteArray) ++ a0) ++ (⟨#[61]⟩ : ByteArray))] ?_; (with_reducible refine cB (strings_Cut.calls t129 (((⟨#[32]⟩ : ByteArray) ++ a0) ++ (⟨#[61]⟩ : ByteArray)) t130 t131 true _ ?side1 A10.out) ?_); (case side1 => exact gQ HG.out); intro w15 hb; replace HB := sB hb; clear hb) | ((with_reducible refine gC 18 ?_); refine gL (some 29) Tryd.func18 #[.string t131, .string (⟨#[32]⟩ : ByteArray)] ?_; (with_reducible refine cB (strings_Cut.calls t131 (⟨#[32]⟩ : ByteArray) t133 t134 t135 _ ?side1 A12.out) ?_); (case side1 => exact gQ HG.out); intro w16 hb; replace HB := sB hb; clear hb) | ((with_reducible refine gC 20 ?_); refine gL (some 34) Tryd.func20 #[.string t133] ?_; (with_reducible refine (glyph_values.calls t133 t136 _ A13.out).mono ?_); rintro e w17 ⟨v137, rfl, ho0, hb⟩; refine ⟨_, rfl, ?_⟩; have HO138 := lK ho0; replace HB := sB hb; clear hb ho0))
   go_ret2
   exact ⟨_, eQ, mQ HO138, bQ⟩
def glyph_Back.l0 : Nat → Int → List ByteArray → Int → Int → Option (ByteArray × Bool)
 | 0, _, _, _, _ => none
 | k + 1, x0, x11, x12, x13 => if x13 < x12 then (if 0 ≤ x13 then (if x13 < (x11.length : Int) then ((strings_Cut.f (rdOf ByteArray.empty x11 x13) (⟨#[61]⟩ : ByteArray)).bind fun bt144 => ((glyph_values.f bt144.2.1).bind fun t147 => (if (t147.length : Int) = 1 then (if 0 < (t147.length : Int) then (if (rd t147 0) = x0 then (some (bt144.1, true)) else (glyph_Back.l0 k x0 x11 x12 (wrap64 (x13 + 1)))) else (none)) else (glyph_Back.l0 k x0 x11 x12 (wrap64 (x13 + 1)))))) else (none)) else (none)) else (some ((⟨#[]⟩ : ByteArray), false))
def glyph_Back.f (k : Nat) (a0 : Int) : Option (ByteArray × Bool) := (glyph_list.f k).bind fun t139 => ((strings_Fields.f t139).bind fun t140 => (glyph_Back.l0 k a0 t140 (t140.length : Int) 0))
theorem glyph_Back.mono_l : ∀ k, (∀ y0 y1 y2 y3, LeO (glyph_Back.l0 k y0 y1 y2 y3) (glyph_Back.l0 (k + 1) y0 y1 y2 y3))
 | 0 => fun _ _ _ _ r h => by simp [glyph_Back.l0] at h
 | k + 1 => by
  have ih0 := glyph_Back.mono_l k
  ·intro y0 y1 y2 y3
   unfold glyph_Back.l0
   repeat' first
   | (with_reducible exact ih0 _ _ _ _)
   | (with_reducible exact glyph_list.mono _)
   | (with_reducible exact LeO.refl _)
   | (with_reducible exact LeO.none _)
   | (with_reducible refine LeO.ite ?_ ?_)
   | (with_reducible refine LeO.bind ?_ (fun _ => ?_))
   | exact ih0 _ _ _ _
   | exact glyph_list.mono _
   | exact LeO.none _
   | refine LeO.ite ?_ ?_
   | refine LeO.bind ?_ (fun _ => ?_)
theorem glyph_Back.mono : ∀ a0 k, LeO (glyph_Back.f k a0) (glyph_Back.f (k + 1) a0) := by
 intro a0 k
 have ih0 := glyph_Back.mono_l k
 unfold glyph_Back.f
 repeat' first
   | (with_reducible exact ih0 _ _ _ _)
   | (with_reducible exact glyph_list.mono _)
   | (with_reducible exact LeO.refl _)
   | (with_reducible exact LeO.none _)
   | (with_reducible refine LeO.ite ?_ ?_)
   | (with_reducible refine LeO.bind ?_ (fun _ => ?_))
   | exact ih0 _ _ _ _
   | exact glyph_list.mono _
   | exact LeO.none _
   | refine LeO.ite ?_ ?_
   | refine LeO.bind ?_ (fun _ => ?_)
set_option maxHeartbeats 8000000 in
set_option maxRecDepth 100000 in
theorem glyph_Back.calls (k : Nat) (a0 : Int) (r1 : ByteArray) (r2 : Bool) (w : World) (hG : GW w) (h : glyph_Back.f k a0 = some (r1, r2)) :
  Calls Tryd.prog 9 #[.int .i64 a0] w fun e w' => e = .returned (.tuple #[.string r1, .bool r2]) ∧ Below w.heap.size w w' := by
 have HG := aM hG
 clear hG
 have HB := aM (Below.refl w.heap.size w)
 have H : ((glyph_list.f k).bind fun t139 => ((strings_Fields.f t139).bind fun t140 => (glyph_Back.l0 k a0 t140 (t140.length : Int) 0))) = some (r1, r2) := h
 clear h
 replace H := bS H
 obtain ⟨t139, A2, H⟩ := H
 try dsimp only at H
 replace H := bS H
 obtain ⟨t140, A3, H⟩ := H
 try dsimp only at H
 have H' := aM H
 clear H
 go_enter Tryd.func9, Tryd.ntmps9
 go_wp2_with (first | ((with_reducible refine gC 19 ?_); refine gL (some 10) Tryd.func19 #[] ?_; (with_reducible refine cB (glyph_list.calls k  t139 _ A2.out) ?_); intro w4 hb; replace HB := sB hb; clear hb) | ((with_reducible refine gC 23 ?_); refine gL (some 11) Tryd.func23 #[.string t139] ?_; (with_reducible refine (strings_Fields.calls t139 t140 _ ?side1 A3.out).mono ?_); (case side1 => exact gQ HG.out); rintro e w5 ⟨v141, rfl, ho0, hb⟩; refine ⟨_, rfl, ?_⟩; have HO142 := lK ho0; replace HB := sB hb; clear hb ho0; obtain ⟨Ao6, co6, eo6⟩ := Kd.R_slice HO142.out; subst eo6))
 go_loopg [13] k (fun kq v13 w' => ∃ (x13_1 : Int), v13 = .int .i64 x13_1 ∧ Aside0 (glyph_Back.l0 kq a0 t140 (t140.length : Int) x13_1 = some (r1, r2)) ∧ Aside0 (kq ≤ k) ∧ Aside0 (Kd.R Kd.string 9 w' w.heap.size (fun _ => True) (.slice Ao6 t140.length co6) t140) ∧ Aside0 (Below w.heap.size w w'))
 case atStart => exact ⟨(0), vQ, H', ⟨Nat.le_refl _⟩, ⟨mQ HO142⟩, ⟨bQ⟩⟩
 case round =>
  clear H'
  try clear c1
  try clear c2
  try clear p2
  obtain ⟨x13_1, rfl, HA, HK1, HO_11, HB⟩ := hrel
  cases gk with
  | zero => exact absurd HA.out (by simp [glyph_Back.l0])
  | succ k1 =>
   have H := HA.out
   clear HA
   simp only [glyph_Back.l0] at H
   refine iD H ?_ ?_<;>clear H<;>intro H c7b0
   rotate_left
   ·simp only [Option.some.injEq, Prod.mk.injEq] at H
    obtain ⟨rfl, rfl⟩ := H
    go_wp2
    go_ret2
    exact ⟨eQ, bQ⟩
   refine iD H ?_ ?_<;>clear H<;>intro H c8b0
   rotate_left
   ·exact absurd H (by simp)
   refine iD H ?_ ?_<;>clear H<;>intro H c9b0
   rotate_left
   ·exact absurd H (by simp)
   replace H := bS H
   obtain ⟨⟨t144, t145, t146⟩, A10, H⟩ := H
   try dsimp only at H
   replace H := bS H
   obtain ⟨t147, A11, H⟩ := H
   try dsimp only at H
   refine iEc H ?_ ?_<;>clear H<;>intro H c12b0 c12b1 c12
   rotate_left
   ·have H' := aM H
    clear H
    have p143 : 0 ≤ (x13_1 : Int) := of_decide_eq_true hQ
    have q143 : x13_1 < (t140.length : Int) := of_decide_eq_true hQ
    obtain ⟨ad143, e143, hx143_0⟩ := Kd.at_string (Kd.R_reads' HO_11.out).2.2 x13_1 p143 q143
    cases e143
    replace p143 := eq_true p143
    replace q143 := eq_true q143
    go_wp2_with (first | ((with_reducible refine gC 18 ?_); refine gL (some 19) Tryd.func18 #[.string (rdOf ByteArray.empty t140 x13_1), .string (⟨#[61]⟩ : ByteArray)] ?_; (with_reducible refine cB (strings_Cut.calls (rdOf ByteArray.empty t140 x13_1) (⟨#[61]⟩ : ByteArray) t144 t145 t146 _ ?side1 A10.out) ?_); (case side1 => exact gQ HG.out); intro w21 hb; replace HO_11 := rK HO_11 hb; replace HB := sB hb; clear hb) | ((with_reducible refine gC 20 ?_); refine gL (some 24) Tryd.func20 #[.string t145] ?_; (with_reducible refine (glyph_values.calls t145 t147 _ A11.out).mono ?_); rintro e w22 ⟨v148, rfl, ho0, hb⟩; refine ⟨_, rfl, ?_⟩; replace HO_11 := rK HO_11 hb; have HO149 := lK ho0; replace HB := sB hb; clear hb ho0; obtain ⟨Ao23, co23, eo23⟩ := Kd.R_slice HO149.out; subst eo23))
    go_roundg k1
    case measure => have := HK1.out; omega
    case rel => exact ⟨(wrap64 (x13_1 + 1)), vQ, H', ⟨by have := HK1.out; omega⟩, ⟨mQ HO_11⟩, ⟨bQ⟩⟩
   clear c12
   refine iDc H ?_ ?_<;>clear H<;>intro H c13b0 c13
   rotate_left
   ·exact absurd H (by simp)
   have c13b1 : decide (0 < t147.length) = true := decide_eq_true (by omega)
   clear c13
   refine iEc H ?_ ?_<;>clear H<;>intro H c14b0 c14b1 c14
   ·clear c14
    simp only [Option.some.injEq, Prod.mk.injEq] at H
    obtain ⟨rfl, rfl⟩ := H
    have p143 : 0 ≤ (x13_1 : Int) := of_decide_eq_true hQ
    have q143 : x13_1 < (t140.length : Int) := of_decide_eq_true hQ
    obtain ⟨ad143, e143, hx143_0⟩ := Kd.at_string (Kd.R_reads' HO_11.out).2.2 x13_1 p143 q143
    cases e143
    replace p143 := eq_true p143
    replace q143 := eq_true q143
    go_wp2_with (first | ((with_reducible refine gC 18 ?_); refine gL (some 19) Tryd.func18 #[.string (rdOf ByteArray.empty t140 x13_1), .string (⟨#[61]⟩ : ByteArray)] ?_; (with_reducible refine cB (strings_Cut.calls (rdOf ByteArray.empty t140 x13_1) (⟨#[61]⟩ : ByteArray) t144 t145 t146 _ ?side1 A10.out) ?_); (case side1 => exact gQ HG.out); intro w15 hb; replace HO_11 := rK HO_11 hb; replace HB := sB hb; clear hb) | ((with_reducible refine gC 20 ?_); refine gL (some 24) Tryd.func20 #[.string t145] ?_; (with_reducible refine (glyph_values.calls t145 t147 _ A11.out).mono ?_); rintro e w16 ⟨v148, rfl, ho0, hb⟩; refine ⟨_, rfl, ?_⟩; replace HO_11 := rK HO_11 hb; have HO149 := lK ho0; replace HB := sB hb; clear hb ho0; obtain ⟨Ao17, co17, eo17⟩ := Kd.R_slice HO149.out; subst eo17; have p150 : 0 ≤ (0 : Int) := (by omega); have q150 : 0 < (t147.length : Int) := of_decide_eq_true hQ; obtain ⟨ad150, e150, hx150_0⟩ := Kd.at_int (Kd.R_reads' HO149.out).2.2 0 p150 q150; cases e150; have qi150 : (0 < t147.length) = True := eq_true (by omega); (try rw [show ((0 : Int)).toNat = 0 from rfl] at hx150_0); (try rw [Addr.add_zero'] at hx150_0); replace p150 := eq_true p150; replace q150 := eq_true q150))
    go_ret2
    exact ⟨eQ, bQ⟩
   have H' := aM H
   clear H
   have p143 : 0 ≤ (x13_1 : Int) := of_decide_eq_true hQ
   have q143 : x13_1 < (t140.length : Int) := of_decide_eq_true hQ
   obtain ⟨ad143, e143, hx143_0⟩ := Kd.at_string (Kd.R_reads' HO_11.out).2.2 x13_1 p143 q143
   cases e143
   replace p143 := eq_true p143
   replace q143 := eq_true q143
   go_wp2_with (first | ((with_reducible refine gC 18 ?_); refine gL (some 19) Tryd.func18 #[.string (rdOf ByteArray.empty t140 x13_1), .string (⟨#[61]⟩ : ByteArray)] ?_; (with_reducible refine cB (strings_Cut.calls (rdOf ByteArray.empty t140 x13_1) (⟨#[61]⟩ : ByteArray) t144 t145 t146 _ ?side1 A10.out) ?_); (case side1 => exact gQ HG.out); intro w18 hb; replace HO_11 := rK HO_11 hb; replace HB := sB hb; clear hb) | ((with_reducible refine gC 20 ?_); refine gL (some 24) Tryd.func20 #[.string t145] ?_; (with_reducible refine (glyph_values.calls t145 t147 _ A11.out).mono ?_); rintro e w19 ⟨v148, rfl, ho0, hb⟩; refine ⟨_, rfl, ?_⟩; replace HO_11 := rK HO_11 hb; have HO149 := lK ho0; replace HB := sB hb; clear hb ho0; obtain ⟨Ao20, co20, eo20⟩ := Kd.R_slice HO149.out; subst eo20; have p150 : 0 ≤ (0 : Int) := (by omega); have q150 : 0 < (t147.length : Int) := of_decide_eq_true hQ; obtain ⟨ad150, e150, hx150_0⟩ := Kd.at_int (Kd.R_reads' HO149.out).2.2 0 p150 q150; cases e150; have qi150 : (0 < t147.length) = True := eq_true (by omega); (try rw [show ((0 : Int)).toNat = 0 from rfl] at hx150_0); (try rw [Addr.add_zero'] at hx150_0); replace p150 := eq_true p150; replace q150 := eq_true q150))
   go_roundg k1
   case measure => have := HK1.out; omega
   case rel => exact ⟨(wrap64 (x13_1 + 1)), vQ, H', ⟨by have := HK1.out; omega⟩, ⟨mQ HO_11⟩, ⟨bQ⟩⟩
def hornbooklaw14_awake.f (k : Nat)  : Option (Bool) := (glyph_Uni.f k (⟨#[65]⟩ : ByteArray)).bind fun bt165 => ((glyph_Uni.f k (⟨#[100, 97, 108, 101, 116, 104, 97, 116, 97, 102, 112, 97, 116, 97, 104]⟩ : ByteArray)).bind fun bt169 => ((glyph_Back.f k 65).bind fun bt173 => (if bt165.2 = true then (if (bt165.1.length : Int) = 1 then (if 0 < (bt165.1.length : Int) then (if (rd bt165.1 0) = 65 then (if bt169.2 = true then (if (bt169.1.length : Int) = 2 then (if 0 < (bt169.1.length : Int) then (if (rd bt169.1 0) = 1491 then (if bt173.2 = true then (if bt173.1.toList = ([65] : List UInt8) then ((glyph_Count.f k).bind fun t177 => (some (decide (t177 > 300)))) else (some false)) else (some false)) else (some false)) else (none)) else (some false)) else (some false)) else (some false)) else (none)) else (some false)) else (some false))))
theorem hornbooklaw14_awake.mono : ∀ k, LeO (hornbooklaw14_awake.f k ) (hornbooklaw14_awake.f (k + 1) ) := by
 intro  k
 unfold hornbooklaw14_awake.f
 repeat' first
   | (with_reducible exact glyph_Back.mono _ _)
   | (with_reducible exact glyph_Count.mono _)
   | (with_reducible exact glyph_Uni.mono _ _)
   | (with_reducible exact LeO.refl _)
   | (with_reducible exact LeO.none _)
   | (with_reducible refine LeO.ite ?_ ?_)
   | (with_reducible refine LeO.bind ?_ (fun _ => ?_))
   | exact glyph_Back.mono _ _
   | exact glyph_Count.mono _
   | exact glyph_Uni.mono _ _
   | exact LeO.none _
   | refine LeO.ite ?_ ?_
   | refine LeO.bind ?_ (fun _ => ?_)
set_option maxHeartbeats 8000000 in
set_option maxRecDepth 100000 in
theorem hornbooklaw14_awake.calls (k : Nat)  (r : Bool) (w : World) (hG : GW w) (h : hornbooklaw14_awake.f k  = some r) :
  Calls Tryd.prog 6 #[] w fun e w' => e = .returned (.bool r) ∧ Below w.heap.size w w' := by
 have HG := aM hG
 clear hG
 have HB := aM (Below.refl w.heap.size w)
 have H : ((glyph_Uni.f k (⟨#[65]⟩ : ByteArray)).bind fun bt165 => ((glyph_Uni.f k (⟨#[100, 97, 108, 101, 116, 104, 97, 116, 97, 102, 112, 97, 116, 97, 104]⟩ : ByteArray)).bind fun bt169 => ((glyph_Back.f k 65).bind fun bt173 => (if bt165.2 = true then (if (bt165.1.length : Int) = 1 then (if 0 < (bt165.1.length : Int) then (if (rd bt165.1 0) = 65 then (if bt169.2 = true then (if (bt169.1.length : Int) = 2 then (if 0 < (bt169.1.length : Int) then (if (rd bt169.1 0) = 1491 then (if bt173.2 = true then (if bt173.1.toList = ([65] : List UInt8) then ((glyph_Count.f k).bind fun t177 => (some (decide (t177 > 300)))) else (some false)) else (some false)) else (some false)) else (none)) else (some false)) else (some false)) else (some false)) else (none)) else (some false)) else (some false))))) = some r := h
 clear h
 replace H := bS H
 obtain ⟨⟨t165, t166⟩, A1, H⟩ := H
 try dsimp only at H
 replace H := bS H
 obtain ⟨⟨t169, t170⟩, A2, H⟩ := H
 try dsimp only at H
 replace H := bS H
 obtain ⟨⟨t173, t174⟩, A3, H⟩ := H
 try dsimp only at H
 by_cases c4 : t166 = true
 rotate_left
 ·replace c4 := Bool.eq_false_iff.mpr c4
  subst c4
  rw [if_neg (show ¬ (false = true) by decide)] at H
  obtain rfl := Option.some.inj H
  go_enter Tryd.func6, Tryd.ntmps6
  go_wp2_with (first | ((with_reducible refine gC 7 ?_); refine gL (some 8) Tryd.func7 #[.string (⟨#[65]⟩ : ByteArray)] ?_; (with_reducible refine (glyph_Uni.calls k (⟨#[65]⟩ : ByteArray) t165 false _ ?side1 A1.out).mono ?_); (case side1 => exact gQ HG.out); rintro e w53 ⟨v167, rfl, ho0, hb⟩; refine ⟨_, rfl, ?_⟩; have HO168 := lK ho0; replace HB := sB hb; clear hb ho0) | ((with_reducible refine gC 7 ?_); refine gL (some 12) Tryd.func7 #[.string (⟨#[100, 97, 108, 101, 116, 104, 97, 116, 97, 102, 112, 97, 116, 97, 104]⟩ : ByteArray)] ?_; (with_reducible refine (glyph_Uni.calls k (⟨#[100, 97, 108, 101, 116, 104, 97, 116, 97, 102, 112, 97, 116, 97, 104]⟩ : ByteArray) t169 t170 _ ?side1 A2.out).mono ?_); (case side1 => exact gQ HG.out); rintro e w54 ⟨v171, rfl, ho0, hb⟩; refine ⟨_, rfl, ?_⟩; have HO172 := nK ho0 HO168; replace HO168 := eK HO168 ho0 hb; replace HB := sB hb; clear hb ho0) | ((with_reducible refine gC 9 ?_); refine gL (some 16) Tryd.func9 #[.int .i64 65] ?_; (with_reducible refine cB (glyph_Back.calls k 65 t173 t174 _ ?side1 A3.out) ?_); (case side1 => exact gQ HG.out); intro w55 hb; replace HO168 := rK HO168 hb; replace HO172 := rK HO172 hb; replace HB := sB hb; clear hb))
  go_ret
  exact ⟨eQ, bQ⟩
 subst c4
 rw [if_pos rfl] at H
 refine iEc H ?_ ?_<;>clear H<;>intro H c5b0 c5b1 c5
 rotate_left
 ·obtain rfl := Option.some.inj H
  go_enter Tryd.func6, Tryd.ntmps6
  go_wp2_with (first | ((with_reducible refine gC 7 ?_); refine gL (some 8) Tryd.func7 #[.string (⟨#[65]⟩ : ByteArray)] ?_; (with_reducible refine (glyph_Uni.calls k (⟨#[65]⟩ : ByteArray) t165 true _ ?side1 A1.out).mono ?_); (case side1 => exact gQ HG.out); rintro e w49 ⟨v167, rfl, ho0, hb⟩; refine ⟨_, rfl, ?_⟩; have HO168 := lK ho0; replace HB := sB hb; clear hb ho0) | ((with_reducible refine gC 7 ?_); refine gL (some 12) Tryd.func7 #[.string (⟨#[100, 97, 108, 101, 116, 104, 97, 116, 97, 102, 112, 97, 116, 97, 104]⟩ : ByteArray)] ?_; (with_reducible refine (glyph_Uni.calls k (⟨#[100, 97, 108, 101, 116, 104, 97, 116, 97, 102, 112, 97, 116, 97, 104]⟩ : ByteArray) t169 t170 _ ?side1 A2.out).mono ?_); (case side1 => exact gQ HG.out); rintro e w50 ⟨v171, rfl, ho0, hb⟩; refine ⟨_, rfl, ?_⟩; have HO172 := nK ho0 HO168; replace HO168 := eK HO168 ho0 hb; replace HB := sB hb; clear hb ho0) | ((with_reducible refine gC 9 ?_); refine gL (some 16) Tryd.func9 #[.int .i64 65] ?_; (with_reducible refine cB (glyph_Back.calls k 65 t173 t174 _ ?side1 A3.out) ?_); (case side1 => exact gQ HG.out); intro w51 hb; replace HO168 := rK HO168 hb; replace HO172 := rK HO172 hb; replace HB := sB hb; clear hb; obtain ⟨Ao52, co52, eo52⟩ := Kd.R_slice HO168.out; subst eo52))
  go_ret
  exact ⟨eQ, bQ⟩
 clear c5
 refine iDc H ?_ ?_<;>clear H<;>intro H c6b0 c6
 rotate_left
 ·exact absurd H (by simp)
 have c6b1 : decide (0 < t165.length) = true := decide_eq_true (by omega)
 clear c6
 refine iEc H ?_ ?_<;>clear H<;>intro H c7b0 c7b1 c7
 rotate_left
 ·obtain rfl := Option.some.inj H
  go_enter Tryd.func6, Tryd.ntmps6
  go_wp2_with (first | ((with_reducible refine gC 7 ?_); refine gL (some 8) Tryd.func7 #[.string (⟨#[65]⟩ : ByteArray)] ?_; (with_reducible refine (glyph_Uni.calls k (⟨#[65]⟩ : ByteArray) t165 true _ ?side1 A1.out).mono ?_); (case side1 => exact gQ HG.out); rintro e w45 ⟨v167, rfl, ho0, hb⟩; refine ⟨_, rfl, ?_⟩; have HO168 := lK ho0; replace HB := sB hb; clear hb ho0) | ((with_reducible refine gC 7 ?_); refine gL (some 12) Tryd.func7 #[.string (⟨#[100, 97, 108, 101, 116, 104, 97, 116, 97, 102, 112, 97, 116, 97, 104]⟩ : ByteArray)] ?_; (with_reducible refine (glyph_Uni.calls k (⟨#[100, 97, 108, 101, 116, 104, 97, 116, 97, 102, 112, 97, 116, 97, 104]⟩ : ByteArray) t169 t170 _ ?side1 A2.out).mono ?_); (case side1 => exact gQ HG.out); rintro e w46 ⟨v171, rfl, ho0, hb⟩; refine ⟨_, rfl, ?_⟩; have HO172 := nK ho0 HO168; replace HO168 := eK HO168 ho0 hb; replace HB := sB hb; clear hb ho0) | ((with_reducible refine gC 9 ?_); refine gL (some 16) Tryd.func9 #[.int .i64 65] ?_; (with_reducible refine cB (glyph_Back.calls k 65 t173 t174 _ ?side1 A3.out) ?_); (case side1 => exact gQ HG.out); intro w47 hb; replace HO168 := rK HO168 hb; replace HO172 := rK HO172 hb; replace HB := sB hb; clear hb; obtain ⟨Ao48, co48, eo48⟩ := Kd.R_slice HO168.out; subst eo48; have p175 : 0 ≤ (0 : Int) := (by omega); have q175 : 0 < (t165.length : Int) := of_decide_eq_true hQ; obtain ⟨ad175, e175, hx175_0⟩ := Kd.at_int (Kd.R_reads' HO168.out).2.2 0 p175 q175; cases e175; have qi175 : (0 < t165.length) = True := eq_true (by omega); (try rw [show ((0 : Int)).toNat = 0 from rfl] at hx175_0); (try rw [Addr.add_zero'] at hx175_0); replace p175 := eq_true p175; replace q175 := eq_true q175))
  go_ret
  exact ⟨eQ, bQ⟩
 clear c7
 by_cases c8 : t170 = true
 rotate_left
 ·replace c8 := Bool.eq_false_iff.mpr c8
  subst c8
  rw [if_neg (show ¬ (false = true) by decide)] at H
  obtain rfl := Option.some.inj H
  go_enter Tryd.func6, Tryd.ntmps6
  go_wp2_with (first | ((with_reducible refine gC 7 ?_); refine gL (some 8) Tryd.func7 #[.string (⟨#[65]⟩ : ByteArray)] ?_; (with_reducible refine (glyph_Uni.calls k (⟨#[65]⟩ : ByteArray) t165 true _ ?side1 A1.out).mono ?_); (case side1 => exact gQ HG.out); rintro e w41 ⟨v167, rfl, ho0, hb⟩; refine ⟨_, rfl, ?_⟩; have HO168 := lK ho0; replace HB := sB hb; clear hb ho0) | ((with_reducible refine gC 7 ?_); refine gL (some 12) Tryd.func7 #[.string (⟨#[100, 97, 108, 101, 116, 104, 97, 116, 97, 102, 112, 97, 116, 97, 104]⟩ : ByteArray)] ?_; (with_reducible refine (glyph_Uni.calls k (⟨#[100, 97, 108, 101, 116, 104, 97, 116, 97, 102, 112, 97, 116, 97, 104]⟩ : ByteArray) t169 false _ ?side1 A2.out).mono ?_); (case side1 => exact gQ HG.out); rintro e w42 ⟨v171, rfl, ho0, hb⟩; refine ⟨_, rfl, ?_⟩; have HO172 := nK ho0 HO168; replace HO168 := eK HO168 ho0 hb; replace HB := sB hb; clear hb ho0) | ((with_reducible refine gC 9 ?_); refine gL (some 16) Tryd.func9 #[.int .i64 65] ?_; (with_reducible refine cB (glyph_Back.calls k 65 t173 t174 _ ?side1 A3.out) ?_); (case side1 => exact gQ HG.out); intro w43 hb; replace HO168 := rK HO168 hb; replace HO172 := rK HO172 hb; replace HB := sB hb; clear hb; obtain ⟨Ao44, co44, eo44⟩ := Kd.R_slice HO168.out; subst eo44; have p175 : 0 ≤ (0 : Int) := (by omega); have q175 : 0 < (t165.length : Int) := of_decide_eq_true hQ; obtain ⟨ad175, e175, hx175_0⟩ := Kd.at_int (Kd.R_reads' HO168.out).2.2 0 p175 q175; cases e175; have qi175 : (0 < t165.length) = True := eq_true (by omega); (try rw [show ((0 : Int)).toNat = 0 from rfl] at hx175_0); (try rw [Addr.add_zero'] at hx175_0); replace p175 := eq_true p175; replace q175 := eq_true q175))
  go_ret
  exact ⟨eQ, bQ⟩
 subst c8
 rw [if_pos rfl] at H
 refine iEc H ?_ ?_<;>clear H<;>intro H c9b0 c9b1 c9
 rotate_left
 ·obtain rfl := Option.some.inj H
  go_enter Tryd.func6, Tryd.ntmps6
  go_wp2_with (first | ((with_reducible refine gC 7 ?_); refine gL (some 8) Tryd.func7 #[.string (⟨#[65]⟩ : ByteArray)] ?_; (with_reducible refine (glyph_Uni.calls k (⟨#[65]⟩ : ByteArray) t165 true _ ?side1 A1.out).mono ?_); (case side1 => exact gQ HG.out); rintro e w36 ⟨v167, rfl, ho0, hb⟩; refine ⟨_, rfl, ?_⟩; have HO168 := lK ho0; replace HB := sB hb; clear hb ho0) | ((with_reducible refine gC 7 ?_); refine gL (some 12) Tryd.func7 #[.string (⟨#[100, 97, 108, 101, 116, 104, 97, 116, 97, 102, 112, 97, 116, 97, 104]⟩ : ByteArray)] ?_; (with_reducible refine (glyph_Uni.calls k (⟨#[100, 97, 108, 101, 116, 104, 97, 116, 97, 102, 112, 97, 116, 97, 104]⟩ : ByteArray) t169 true _ ?side1 A2.out).mono ?_); (case side1 => exact gQ HG.out); rintro e w37 ⟨v171, rfl, ho0, hb⟩; refine ⟨_, rfl, ?_⟩; have HO172 := nK ho0 HO168; replace HO168 := eK HO168 ho0 hb; replace HB := sB hb; clear hb ho0) | ((with_reducible refine gC 9 ?_); refine gL (some 16) Tryd.func9 #[.int .i64 65] ?_; (with_reducible refine cB (glyph_Back.calls k 65 t173 t174 _ ?side1 A3.out) ?_); (case side1 => exact gQ HG.out); intro w38 hb; replace HO168 := rK HO168 hb; replace HO172 := rK HO172 hb; replace HB := sB hb; clear hb; obtain ⟨Ao39, co39, eo39⟩ := Kd.R_slice HO168.out; subst eo39; have p175 : 0 ≤ (0 : Int) := (by omega); have q175 : 0 < (t165.length : Int) := of_decide_eq_true hQ; obtain ⟨ad175, e175, hx175_0⟩ := Kd.at_int (Kd.R_reads' HO168.out).2.2 0 p175 q175; cases e175; have qi175 : (0 < t165.length) = True := eq_true (by omega); (try rw [show ((0 : Int)).toNat = 0 from rfl] at hx175_0); (try rw [Addr.add_zero'] at hx175_0); replace p175 := eq_true p175; replace q175 := eq_true q175; obtain ⟨Ao40, co40, eo40⟩ := Kd.R_slice HO172.out; subst eo40))
  go_ret
  exact ⟨eQ, bQ⟩
 clear c9
 refine iDc H ?_ ?_<;>clear H<;>intro H c10b0 c10
 rotate_left
 ·exact absurd H (by simp)
 have c10b1 : decide (0 < t169.length) = true := decide_eq_true (by omega)
 clear c10
 refine iEc H ?_ ?_<;>clear H<;>intro H c11b0 c11b1 c11
 rotate_left
 ·obtain rfl := Option.some.inj H
  go_enter Tryd.func6, Tryd.ntmps6
  go_wp2_with (first | ((with_reducible refine gC 7 ?_); refine gL (some 8) Tryd.func7 #[.string (⟨#[65]⟩ : ByteArray)] ?_; (with_reducible refine (glyph_Uni.calls k (⟨#[65]⟩ : ByteArray) t165 true _ ?side1 A1.out).mono ?_); (case side1 => exact gQ HG.out); rintro e w31 ⟨v167, rfl, ho0, hb⟩; refine ⟨_, rfl, ?_⟩; have HO168 := lK ho0; replace HB := sB hb; clear hb ho0) | ((with_reducible refine gC 7 ?_); refine gL (some 12) Tryd.func7 #[.string (⟨#[100, 97, 108, 101, 116, 104, 97, 116, 97, 102, 112, 97, 116, 97, 104]⟩ : ByteArray)] ?_; (with_reducible refine (glyph_Uni.calls k (⟨#[100, 97, 108, 101, 116, 104, 97, 116, 97, 102, 112, 97, 116, 97, 104]⟩ : ByteArray) t169 true _ ?side1 A2.out).mono ?_); (case side1 => exact gQ HG.out); rintro e w32 ⟨v171, rfl, ho0, hb⟩; refine ⟨_, rfl, ?_⟩; have HO172 := nK ho0 HO168; replace HO168 := eK HO168 ho0 hb; replace HB := sB hb; clear hb ho0) | ((with_reducible refine gC 9 ?_); refine gL (some 16) Tryd.func9 #[.int .i64 65] ?_; (with_reducible refine cB (glyph_Back.calls k 65 t173 t174 _ ?side1 A3.out) ?_); (case side1 => exact gQ HG.out); intro w33 hb; replace HO168 := rK HO168 hb; replace HO172 := rK HO172 hb; replace HB := sB hb; clear hb; obtain ⟨Ao34, co34, eo34⟩ := Kd.R_slice HO168.out; subst eo34; have p175 : 0 ≤ (0 : Int) := (by omega); have q175 : 0 < (t165.length : Int) := of_decide_eq_true hQ; obtain ⟨ad175, e175, hx175_0⟩ := Kd.at_int (Kd.R_reads' HO168.out).2.2 0 p175 q175; cases e175; have qi175 : (0 < t165.length) = True := eq_true (by omega); (try rw [show ((0 : Int)).toNat = 0 from rfl] at hx175_0); (try rw [Addr.add_zero'] at hx175_0); replace p175 := eq_true p175; replace q175 := eq_true q175; obtain ⟨Ao35, co35, eo35⟩ := Kd.R_slice HO172.out; subst eo35; have p176 : 0 ≤ (0 : Int) := (by omega); have q176 : 0 < (t169.length : Int) := of_decide_eq_true hQ; obtain ⟨ad176, e176, hx176_0⟩ := Kd.at_int (Kd.R_reads' HO172.out).2.2 0 p176 q176; cases e176; have qi176 : (0 < t169.length) = True := eq_true (by omega); (try rw [show ((0 : Int)).toNat = 0 from rfl] at hx176_0); (try rw [Addr.add_zero'] at hx176_0); replace p176 := eq_true p176; replace q176 := eq_true q176))
  go_ret
  exact ⟨eQ, bQ⟩
 clear c11
 by_cases c12 : t174 = true
 rotate_left
 ·replace c12 := Bool.eq_false_iff.mpr c12
  subst c12
  rw [if_neg (show ¬ (false = true) by decide)] at H
  obtain rfl := Option.some.inj H
  go_enter Tryd.func6, Tryd.ntmps6
  go_wp2_with (first | ((with_reducible refine gC 7 ?_); refine gL (some 8) Tryd.func7 #[.string (⟨#[65]⟩ : ByteArray)] ?_; (with_reducible refine (glyph_Uni.calls k (⟨#[65]⟩ : ByteArray) t165 true _ ?side1 A1.out).mono ?_); (case side1 => exact gQ HG.out); rintro e w26 ⟨v167, rfl, ho0, hb⟩; refine ⟨_, rfl, ?_⟩; have HO168 := lK ho0; replace HB := sB hb; clear hb ho0) | ((with_reducible refine gC 7 ?_); refine gL (some 12) Tryd.func7 #[.string (⟨#[100, 97, 108, 101, 116, 104, 97, 116, 97, 102, 112, 97, 116, 97, 104]⟩ : ByteArray)] ?_; (with_reducible refine (glyph_Uni.calls k (⟨#[100, 97, 108, 101, 116, 104, 97, 116, 97, 102, 112, 97, 116, 97, 104]⟩ : ByteArray) t169 true _ ?side1 A2.out).mono ?_); (case side1 => exact gQ HG.out); rintro e w27 ⟨v171, rfl, ho0, hb⟩; refine ⟨_, rfl, ?_⟩; have HO172 := nK ho0 HO168; replace HO168 := eK HO168 ho0 hb; replace HB := sB hb; clear hb ho0) | ((with_reducible refine gC 9 ?_); refine gL (some 16) Tryd.func9 #[.int .i64 65] ?_; (with_reducible refine cB (glyph_Back.calls k 65 t173 false _ ?side1 A3.out) ?_); (case side1 => exact gQ HG.out); intro w28 hb; replace HO168 := rK HO168 hb; replace HO172 := rK HO172 hb; replace HB := sB hb; clear hb; obtain ⟨Ao29, co29, eo29⟩ := Kd.R_slice HO168.out; subst eo29; have p175 : 0 ≤ (0 : Int) := (by omega); have q175 : 0 < (t165.length : Int) := of_decide_eq_true hQ; obtain ⟨ad175, e175, hx175_0⟩ := Kd.at_int (Kd.R_reads' HO168.out).2.2 0 p175 q175; cases e175; have qi175 : (0 < t165.length) = True := eq_true (by omega); (try rw [show ((0 : Int)).toNat = 0 from rfl] at hx175_0); (try rw [Addr.add_zero'] at hx175_0); replace p175 := eq_true p175; replace q175 := eq_true q175; obtain ⟨Ao30, co30, eo30⟩ := Kd.R_slice HO172.out; subst eo30; have p176 : 0 ≤ (0 : Int) := (by omega); have q176 : 0 < (t169.length : Int) := of_decide_eq_true hQ; obtain ⟨ad176, e176, hx176_0⟩ := Kd.at_int (Kd.R_reads' HO172.out).2.2 0 p176 q176; cases e176; have qi176 : (0 < t169.length) = True := eq_true (by omega); (try rw [show ((0 : Int)).toNat = 0 from rfl] at hx176_0); (try rw [Addr.add_zero'] at hx176_0); replace p176 := eq_true p176; replace q176 := eq_true q176))
  go_ret
  exact ⟨eQ, bQ⟩
 subst c12
 rw [if_pos rfl] at H
 refine iEc H ?_ ?_<;>clear H<;>intro H c13b0 c13b1 c13
 rotate_left
 ·obtain rfl := Option.some.inj H
  go_enter Tryd.func6, Tryd.ntmps6
  go_wp2_with (first | ((with_reducible refine gC 7 ?_); refine gL (some 8) Tryd.func7 #[.string (⟨#[65]⟩ : ByteArray)] ?_; (with_reducible refine (glyph_Uni.calls k (⟨#[65]⟩ : ByteArray) t165 true _ ?side1 A1.out).mono ?_); (case side1 => exact gQ HG.out); rintro e w21 ⟨v167, rfl, ho0, hb⟩; refine ⟨_, rfl, ?_⟩; have HO168 := lK ho0; replace HB := sB hb; clear hb ho0) | ((with_reducible refine gC 7 ?_); refine gL (some 12) Tryd.func7 #[.string (⟨#[100, 97, 108, 101, 116, 104, 97, 116, 97, 102, 112, 97, 116, 97, 104]⟩ : ByteArray)] ?_; (with_reducible refine (glyph_Uni.calls k (⟨#[100, 97, 108, 101, 116, 104, 97, 116, 97, 102, 112, 97, 116, 97, 104]⟩ : ByteArray) t169 true _ ?side1 A2.out).mono ?_); (case side1 => exact gQ HG.out); rintro e w22 ⟨v171, rfl, ho0, hb⟩; refine ⟨_, rfl, ?_⟩; have HO172 := nK ho0 HO168; replace HO168 := eK HO168 ho0 hb; replace HB := sB hb; clear hb ho0) | ((with_reducible refine gC 9 ?_); refine gL (some 16) Tryd.func9 #[.int .i64 65] ?_; (with_reducible refine cB (glyph_Back.calls k 65 t173 true _ ?side1 A3.out) ?_); (case side1 => exact gQ HG.out); intro w23 hb; replace HO168 := rK HO168 hb; replace HO172 := rK HO172 hb; replace HB := sB hb; clear hb; obtain ⟨Ao24, co24, eo24⟩ := Kd.R_slice HO168.out; subst eo24; have p175 : 0 ≤ (0 : Int) := (by omega); have q175 : 0 < (t165.length : Int) := of_decide_eq_true hQ; obtain ⟨ad175, e175, hx175_0⟩ := Kd.at_int (Kd.R_reads' HO168.out).2.2 0 p175 q175; cases e175; have qi175 : (0 < t165.length) = True := eq_true (by omega); (try rw [show ((0 : Int)).toNat = 0 from rfl] at hx175_0); (try rw [Addr.add_zero'] at hx175_0); replace p175 := eq_true p175; replace q175 := eq_true q175; obtain ⟨Ao25, co25, eo25⟩ := Kd.R_slice HO172.out; subst eo25; have p176 : 0 ≤ (0 : Int) := (by omega); have q176 : 0 < (t169.length : Int) := of_decide_eq_true hQ; obtain ⟨ad176, e176, hx176_0⟩ := Kd.at_int (Kd.R_reads' HO172.out).2.2 0 p176 q176; cases e176; have qi176 : (0 < t169.length) = True := eq_true (by omega); (try rw [show ((0 : Int)).toNat = 0 from rfl] at hx176_0); (try rw [Addr.add_zero'] at hx176_0); replace p176 := eq_true p176; replace q176 := eq_true q176))
  go_ret
  exact ⟨eQ, bQ⟩
 clear c13
 replace H := bS H
 obtain ⟨t177, A14, H⟩ := H
 try dsimp only at H
 obtain rfl := Option.some.inj H
 go_enter Tryd.func6, Tryd.ntmps6
 go_wp2_with (first | ((with_reducible refine gC 7 ?_); refine gL (some 8) Tryd.func7 #[.string (⟨#[65]⟩ : ByteArray)] ?_; (with_reducible refine (glyph_Uni.calls k (⟨#[65]⟩ : ByteArray) t165 true _ ?side1 A1.out).mono ?_); (case side1 => exact gQ HG.out); rintro e w15 ⟨v167, rfl, ho0, hb⟩; refine ⟨_, rfl, ?_⟩; have HO168 := lK ho0; replace HB := sB hb; clear hb ho0) | ((with_reducible refine gC 7 ?_); refine gL (some 12) Tryd.func7 #[.string (⟨#[100, 97, 108, 101, 116, 104, 97, 116, 97, 102, 112, 97, 116, 97, 104]⟩ : ByteArray)] ?_; (with_reducible refine (glyph_Uni.calls k (⟨#[100, 97, 108, 101, 116, 104, 97, 116, 97, 102, 112, 97, 116, 97, 104]⟩ : ByteArray) t169 true _ ?side1 A2.out).mono ?_); (case side1 => exact gQ HG.out); rintro e w16 ⟨v171, rfl, ho0, hb⟩; refine ⟨_, rfl, ?_⟩; have HO172 := nK ho0 HO168; replace HO168 := eK HO168 ho0 hb; replace HB := sB hb; clear hb ho0) | ((with_reducible refine gC 9 ?_); refine gL (some 16) Tryd.func9 #[.int .i64 65] ?_; (with_reducible refine cB (glyph_Back.calls k 65 t173 true _ ?side1 A3.out) ?_); (case side1 => exact gQ HG.out); intro w17 hb; replace HO168 := rK HO168 hb; replace HO172 := rK HO172 hb; replace HB := sB hb; clear hb; obtain ⟨Ao18, co18, eo18⟩ := Kd.R_slice HO168.out; subst eo18; have p175 : 0 ≤ (0 : Int) := (by omega); have q175 : 0 < (t165.length : Int) := of_decide_eq_true hQ; obtain ⟨ad175, e175, hx175_0⟩ := Kd.at_int (Kd.R_reads' HO168.out).2.2 0 p175 q175; cases e175; have qi175 : (0 < t165.length) = True := eq_true (by omega); (try rw [show ((0 : Int)).toNat = 0 from rfl] at hx175_0); (try rw [Addr.add_zero'] at hx175_0); replace p175 := eq_true p175; replace q175 := eq_true q175; obtain ⟨Ao19, co19, eo19⟩ := Kd.R_slice HO172.out; subst eo19; have p176 : 0 ≤ (0 : Int) := (by omega); have q176 : 0 < (t169.length : Int) := of_decide_eq_true hQ; obtain ⟨ad176, e176, hx176_0⟩ := Kd.at_int (Kd.R_reads' HO172.out).2.2 0 p176 q176; cases e176; have qi176 : (0 < t169.length) = True := eq_true (by omega); (try rw [show ((0 : Int)).toNat = 0 from rfl] at hx176_0); (try rw [Addr.add_zero'] at hx176_0); replace p176 := eq_true p176; replace q176 := eq_true q176) | (go_at_call 13; (with_reducible refine (glyph_Count.calls k  t177 _ ?side1 A14.out).mono ?_); (case side1 => exact gQ HG.out); rintro e w20 ⟨rfl, hb⟩; replace HO168 := rK HO168 hb; replace HO172 := rK HO172 hb; replace HB := sB hb; clear hb))
 go_ret
 exact ⟨eQ, bQ⟩
end Go.Proofs.YtdbadfcekomomaaDoor.M
end
