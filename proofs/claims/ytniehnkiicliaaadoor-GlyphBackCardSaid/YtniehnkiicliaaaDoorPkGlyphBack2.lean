/- Packed by this session's program hbpack.py out of this claim's own texts (QK, G, Sh, Sh2, Q36, Q37, Rf, Q56, Q79, Q57, Q58, Q59, Q38, Lr, Sp, Pi16, Pj16, Rl, Q39, Q23, Q42): the same declarations, without those that the claim does not use. -/
import Derived.Test.YtniehnkiicliaaaDoorPkGlyphBack1
import Derived.Below
import Derived.Deep.Draws
import Derived.Deep.AppendLies
import Derived.Maps.AppendAt
import Derived.OwnWalk
import Derived.Laws.BytesArg
import Derived.Laws.MakeOwn
import Derived.Laws.OwnMore
import Derived.Deep.OwnRows
import Derived.Tactics
import Derived.Lib.ConvBytes
import Derived.Laws.Slices
import Derived.WalkKit
import Derived.KernelRfl
import Derived.RowKit3
import Derived.Deep.LoopGhost
import Derived.Deep.QuietTactic
import Derived.BigQuiet
import Derived.WideLaws
import Derived.Deep.DeepCutAuto
import Derived.Deep.CutBlock
import Derived.Deep.RegionHeld3
import Derived.Laws.Rows
import Derived.Lib.AppendStr
import Derived.ArgAppend
import Derived.Laws.IdiomCopy
import Derived.OrdersHeld
import Derived.Laws.BitsLemmas
import Derived.RowKit
import Derived.Test.YtniehnkiicliaaaDoorProg
import Derived.Lib.LaidTab
import Derived.Lib.Space
import Derived.Shelf.Strings.Builder1
import Derived.Shelf.Strings.Builder2
import Derived.Shelf.Strings.OnBuilder
import Derived.Shelf.Small.Utf8
import Derived.Shelf.Small.Strs
import Derived.Shelf.Strconv.Atoi
import Derived.Shelf.Strings.Search1
import Derived.Shelf.Strings.Search2
import Derived.Shelf.Strings.Search3
import Derived.Shelf.Strings.Cut
import Derived.Shelf.LaysM
import Derived.Shelf.Strings.Shaped
import Derived.Shelf.Strings.Fields
import Derived.Shelf.Strings.SplitShaped
import Derived.Shelf.Unicode.Latin
import Derived.Shelf.Strings.Runes
import Derived.Shelf.Strings.IndexAny
import Derived.Shelf.Strings.AsciiSet
import Derived.Shelf.Strings.IndexAnyAll
import Derived.Shelf.Unicode.DecodeSlow
import Derived.Shelf.Unicode.Is16White
import Derived.Shelf.Unicode.IsSpaceAny
import Derived.Shelf.Unicode.Is16Any
import Derived.Shelf.Unicode.Is32Any
import Derived.Shelf.Unicode.ExclAny
import Derived.Shelf.Strings.BuilderF
import Derived.Shelf.Strings.BuilderK
import Derived.Shelf.Strconv.Itoa0
import Derived.Shelf.Strconv.Itoa1
import Derived.Shelf.Strconv.Itoa2
import Derived.Shelf.Strconv.Itoa3
import Derived.Shelf.Unicode.Decode
import Derived.Shelf.Unicode.DecodeAny
import Derived.Lib.AppendZeros
import Derived.Lib.Walk
import Derived.Lib.SliceRun
import Derived.Lib.Strings
import Derived.Lib.IndexBytes
import Derived.RangeFuncRecord
import Derived.RangeFuncSeq
import Derived.Shelf.Abstract
import Derived.Shelf.RegionOpen
import Derived.OwnWalkIn
import Derived.TacticsInMore
import Derived.LoopNIn
import Derived.LoopIn
import Derived.OneCell
import Derived.Lib.Builder
import Derived.Lib.AtoiAllMem
import Derived.Laws.Strings3
import Derived.Laws.Closers25
import Derived.Laws.Closers25b
import Derived.BigCall
import Derived.BigGuard
import Derived.RangeFuncOwn
import Derived.RangeFuncLeaves
import Derived.RangeFuncCalls
import Derived.RangeFuncFrom
import Derived.RangeFuncBox
section
/- Laid by this session's program hbprint.py out of the translation: the values' own kinds. -/
namespace Go.Proofs.YtniehnkiicliaaaDoor.M
open Go.RowKit Go.Proofs.YtniehnkiicliaaaDoorW.PrintWords Go.Proofs.YtniehnkiicliaaaDoorW.PrintLast Go.Proofs.YtniehnkiicliaaaDoorW.PrintMore
attribute [local go_sem] max2_int min2_int max_two min_two max_three min_three max_four min_four
set_option linter.unusedVariables false
set_option linter.unusedSimpArgs false
def errW : Option Int → Value
  | none => .nilIface
  | some c => .iface 0 (.int .i64 c)
theorem errW_none : errW none = .nilIface := rfl
theorem errW_some (c : Int) : errW (some c) = .iface 0 (.int .i64 c) := rfl
theorem info9 : (Tryd.prog.info? 9).map (fun i => (i.zero, i.size, i.bytes)) = some (some (.string ⟨#[]⟩), 1, 16) := by kernel_rfl
def rd_L1 (xs : List (List ByteArray)) (i : Int) : (List ByteArray) := xs.getD i.toNat ([] : List ByteArray)
theorem at_L1 {w : World} {A : Option Addr} {n : Nat} {xs : List (List ByteArray)} (h : Kd.C (Kd.slice 9 Kd.string) w A n xs) (i : Int) (h0 : 0 ≤ i) (h1 : i < n) : ∃ ad A0 c0, A = some ad ∧ w.cell? (ad.add i.toNat) = some (.slice A0 (rd_L1 xs i).length c0) ∧ (rd_L1 xs i).length ≤ c0 ∧ Kd.string.C w A0 (rd_L1 xs i).length (rd_L1 xs i) := by
  obtain ⟨ad, c, e, _, hK, hc0⟩ := Kd.C_get h ([] : List ByteArray) i h0 h1
  have hc : ∀ j u, c[j]? = some u → w.cell? (ad.add (i.toNat * 1 + j)) = some u := hc0
  obtain ⟨A0, c0, rfl, l0, g0⟩ := hK
  exact ⟨ad, A0, c0, e, by have hq := hc 0 _ rfl; rwa [Nat.mul_one, Nat.add_zero] at hq, l0, g0⟩
structure S59 where
  f0 : ByteArray
  f1 : (List Int)
def z59 : S59 := ⟨(⟨#[]⟩ : ByteArray), ([] : List Int)⟩
end Go.Proofs.YtniehnkiicliaaaDoor.M
end
section
namespace Go.Proofs.YtniehnkiicliaaaDoor.M
open Go.RowKit Go.Proofs.YtniehnkiicliaaaDoorW.PrintWords
set_option linter.unusedVariables false
theorem tab_below {P : Program} {n : String} {g : Nat} {k : IntKind} {zs : List Int} {w w' : World} (hg : P.globalNamed n = some g) (h : Lib.TabIs P w n k zs) (hb : Below w.heap.size w w') : Lib.TabIs P w' n k zs := by
  unfold Lib.TabIs World.var? at h ⊢
  rw [hg] at h ⊢
  simp only [Option.bind_some] at h ⊢
  have hlt : g < w.heap.size := by
    rcases Nat.lt_or_ge g w.heap.size with h' | h'
    · exact h'
    · rw [Array.getElem?_eq_none h'] at h; cases h
  rw [hb.block g hlt]
  exact h
/-- strconv.ErrRange holds a pointer to an errors.errorString; internal/bytealg.MaxLen holds some int. -/
structure GW (w : World) : Prop where
  range : ∃ a, w.cell? ⟨4, 0, none⟩ = some (.iface 142 (.pointer (some a)))
  syn : ∃ a, w.cell? ⟨3, 0, none⟩ = some (.iface 142 (.pointer (some a)))
  max : ∃ m : Int, w.cell? ⟨2, 0, none⟩ = some (.int .i64 m)
  space : Lib.TabIs Tryd.prog w "strings.asciiSpace" .u8 Lib.asciiSpaceTab
theorem GW.below {w w1 : World} (hb : Below w.heap.size w w1) (h : GW w) : GW w1 where
  range := h.range.imp fun _ e => pw_cell_below hb e
  syn := h.syn.imp fun _ e => pw_cell_below hb e
  max := h.max.imp fun _ e => pw_cell_below hb e
  space := tab_below (g := 0) (by kernel_rfl) h.space hb
end Go.Proofs.YtniehnkiicliaaaDoor.M
end
section
namespace Go.Proofs
open Go.Shelf
def Tryd.lays156_ren : Go.Shelf.Ren := ⟨fun | 156 => 56 | 165 => 77 | 166 => 78 | 169 => 46 | 240 => 65 | 241 => 94 | 276 => 85 | 277 => 107 | n => n, fun | 31 => 28 | 9 => 9 | 3 => 3 | 4 => 4 | 0 => 0 | 20 => 20 | 72 => 62 | 76 => 65 | 70 => 60 | 37 => 42 | 75 => 64 | 127 => 83 | 164 => 103 | 5 => 5 | 80 => 53 | n => n, fun | n => n⟩
theorem Tryd.lays156 : Go.Proofs.Lays.n156 Tryd.prog Tryd.lays156_ren := {
  mixed := by kernel_rfl
  f156 := Tryd.func56.trans (congrArg some (by kernel_rfl))
  f165 := Tryd.func77.trans (congrArg some (by kernel_rfl))
  f166 := Tryd.func78.trans (congrArg some (by kernel_rfl))
  f169 := Tryd.func46.trans (congrArg some (by kernel_rfl))
  f240 := Tryd.func65.trans (congrArg some (by kernel_rfl))
  f241 := Tryd.func94.trans (congrArg some (by kernel_rfl))
  f276 := Tryd.func85.trans (congrArg some (by kernel_rfl))
  f277 := Tryd.func107.trans (congrArg some (by kernel_rfl))
  t0 := Tryd.underlying0
  a0 := Tryd.isAgg0
  z0 := Tryd.sizeOf0
  v0 := Tryd.zeroValue0
  t3 := Tryd.underlying3
  a3 := Tryd.isAgg3
  z3 := Tryd.sizeOf3
  v3 := Tryd.zeroValue3
  t4 := Tryd.underlying4
  a4 := Tryd.isAgg4
  z4 := Tryd.sizeOf4
  v4 := Tryd.zeroValue4
  t9 := Tryd.underlying9
  a9 := Tryd.isAgg9
  z9 := Tryd.sizeOf9
  v9 := Tryd.zeroValue9
  t20 := Tryd.underlying20
  a20 := Tryd.isAgg20
  z20 := Tryd.sizeOf20
  v20 := Tryd.zeroValue20
  t31 := Tryd.underlying28
  a31 := Tryd.isAgg28
  z31 := Tryd.sizeOf28
  v31 := Tryd.zeroValue28
  t37 := Tryd.underlying42
  a37 := Tryd.isAgg42
  z37 := Tryd.sizeOf42
  v37 := Tryd.zeroValue42
  t70 := Tryd.underlying60
  a70 := Tryd.isAgg60
  z70 := Tryd.sizeOf60
  v70 := Tryd.zeroValue60
  t72 := Tryd.underlying62
  a72 := Tryd.isAgg62
  z72 := Tryd.sizeOf62
  v72 := Tryd.zeroValue62
  t75 := Tryd.underlying64
  a75 := Tryd.isAgg64
  z75 := Tryd.sizeOf64
  v75 := Tryd.zeroValue64
  t76 := Tryd.underlying65
  a76 := Tryd.isAgg65
  z76 := Tryd.sizeOf65
  v76 := Tryd.zeroValue65
  t127 := Tryd.underlying83
  a127 := Tryd.isAgg83
  z127 := Tryd.sizeOf83
  v127 := Tryd.zeroValue83
  t164 := Tryd.underlying103
  a164 := Tryd.isAgg103
  z164 := Tryd.sizeOf103
  v164 := Tryd.zeroValue103 }
theorem Tryd.Builder_Extra_156 : Builder.Extra Tryd.prog Tryd.lays156_ren := {
  sizeBuilder := by kernel_rfl
  liesBuilder := by kernel_rfl
  t5 := Tryd.underlying5
  a5 := Tryd.isAgg5
  z5 := Tryd.sizeOf5
  v5 := Tryd.zeroValue5
  infoByte := by kernel_rfl
  cellsByte := by kernel_rfl
  sizeByte := by kernel_rfl
  neB5 := by decide }
open Go.RowKit in
/-- No element: the empty string; the world is as it was. (Whatever the slice's address and capacity: a nil slice too.) (LAID: no walk: one application.) -/
theorem Tryd.strings_Join_none (a : Option Addr) (c : Nat) (sep : ByteArray) (w : World) :
    Calls Tryd.prog 56 #[.slice a 0 c, .string sep] w fun e w' => e = .returned (.string ⟨#[]⟩) ∧ w' = w := Any.strings_Join_none Tryd.lays156 Tryd.Builder_Extra_156 a c sep w
open Go.RowKit in
/-- strings.Join: "Join concatenates the elements of its first argument to create a single string. The separator string sep is placed between elements in the resulting string.": HOWEVER MANY ELEMENTS. Below the heap's end the world is as it was. (LAID: no walk: one application.) -/
theorem Tryd.strings_Join (bk o c : Nat) (xs : List ByteArray) (sep : ByteArray) (w : World) (hcells : ∀ (j : Nat) x, xs[j]? = some x → w.cell? ⟨bk, o + j, none⟩ = some (.string x)) (hbk : bk < w.heap.size) (hN : xs.length ≤ 140737488355328) (hcap : xs.length ≤ c) (hlen : (Lib.join (xs.map (·.data.toList)) sep.data.toList).length ≤ 140737488355328) :
    Calls Tryd.prog 56 #[.slice (some ⟨bk, o, none⟩) xs.length c, .string sep] w fun e w' => e = .returned (.string ⟨(Lib.join (xs.map (·.data.toList)) sep.data.toList).toArray⟩) ∧ Below w.heap.size w w' := Any.strings_Join Tryd.lays156 Tryd.Builder_Extra_156 bk o c xs sep w hcells hbk hN hcap hlen
def Tryd.lays145_ren : Go.Shelf.Ren := ⟨fun | 145 => 37 | 220 => 55 | 219 => 76 | 217 => 92 | 225 => 91 | 224 => 90 | 267 => 93 | 266 => 105 | 314 => 106 | n => n, fun | 9 => 9 | 4 => 4 | 59 => 51 | 3 => 3 | 5 => 5 | 46 => 106 | 146 => 129 | 51 => 100 | n => n, fun | 1 => 2 | n => n⟩
theorem Tryd.lays145 : Go.Proofs.Lays.n145 Tryd.prog Tryd.lays145_ren := {
  mixed := by kernel_rfl
  f145 := Tryd.func37.trans (congrArg some (by kernel_rfl))
  f217 := Tryd.func92.trans (congrArg some (by kernel_rfl))
  f219 := Tryd.func76.trans (congrArg some (by kernel_rfl))
  f220 := Tryd.func55.trans (congrArg some (by kernel_rfl))
  f224 := Tryd.func90.trans (congrArg some (by kernel_rfl))
  f225 := Tryd.func91.trans (congrArg some (by kernel_rfl))
  f266 := Tryd.func105.trans (congrArg some (by kernel_rfl))
  f267 := Tryd.func93.trans (congrArg some (by kernel_rfl))
  f314 := Tryd.func106.trans (congrArg some (by kernel_rfl))
  t3 := Tryd.underlying3
  a3 := Tryd.isAgg3
  z3 := Tryd.sizeOf3
  v3 := Tryd.zeroValue3
  t4 := Tryd.underlying4
  a4 := Tryd.isAgg4
  z4 := Tryd.sizeOf4
  v4 := Tryd.zeroValue4
  t5 := Tryd.underlying5
  a5 := Tryd.isAgg5
  z5 := Tryd.sizeOf5
  v5 := Tryd.zeroValue5
  t9 := Tryd.underlying9
  a9 := Tryd.isAgg9
  z9 := Tryd.sizeOf9
  v9 := Tryd.zeroValue9
  t46 := Tryd.underlying106
  a46 := Tryd.isAgg106
  z46 := Tryd.sizeOf106
  v46 := Tryd.zeroValue106
  t51 := Tryd.underlying100
  a51 := Tryd.isAgg100
  z51 := Tryd.sizeOf100
  v51 := Tryd.zeroValue100
  t59 := Tryd.underlying51
  a59 := Tryd.isAgg51
  z59 := Tryd.sizeOf51
  v59 := Tryd.zeroValue51
  t146 := Tryd.underlying129
  a146 := Tryd.isAgg129
  z146 := Tryd.sizeOf129
  v146 := Tryd.zeroValue129
  g1 := by kernel_rfl }
open Go.RowKit Go.Lib in
/-- strings.Cut: "Cut slices s around the first instance of sep, returning the text before and after sep. The found result reports whether sep appears in s. If sep does not appear in s, cut returns s, "", false.": IT RETURNS 'Lib.cut s sep'; the world is as it was but for the count of draws. (LAID: no walk: one application.) -/
theorem Tryd.strings_Cut (s sep : ByteArray) (m : Int) (w : World) (hs : s.size < 4294967281) (hm : w.cell? ⟨2, 0, none⟩ = some (.int .i64 m)) :
    Calls Tryd.prog 37 #[.string s, .string sep] w fun e w' => e = .returned (.tuple #[.string ⟨(Lib.cut s.data.toList sep.data.toList).1.toArray⟩, .string ⟨(Lib.cut s.data.toList sep.data.toList).2.1.toArray⟩, .bool (Lib.cut s.data.toList sep.data.toList).2.2]) ∧ ∃ n, w' = w.drewN n := Any.strings_Cut Tryd.lays145 s sep m w hs hm
def Tryd.lays157_ren : Go.Shelf.Ren := ⟨fun | 157 => 42 | 229 => 63 | 199 => 64 | 261 => 84 | 311 => 103 | 312 => 104 | n => n, fun | 9 => 9 | 31 => 28 | 3 => 3 | 5 => 5 | 4 => 4 | 119 => 79 | 0 => 0 | 40 => 81 | 152 => 97 | 21 => 21 | 154 => 99 | 51 => 100 | 141 => 102 | 196 => 121 | 193 => 118 | 198 => 124 | 49 => 122 | 194 => 119 | 201 => 127 | 226 => 137 | 46 => 106 | 227 => 138 | n => n, fun | 0 => 0 | 6 => 1 | n => n⟩
theorem Tryd.lays157 : Go.Proofs.Lays.n157 Tryd.prog Tryd.lays157_ren := {
  mixed := by kernel_rfl
  f157 := Tryd.func42.trans (congrArg some (by kernel_rfl))
  f199 := Tryd.func64.trans (congrArg some (by kernel_rfl))
  f229 := Tryd.func63.trans (congrArg some (by kernel_rfl))
  f261 := Tryd.func84.trans (congrArg some (by kernel_rfl))
  f311 := Tryd.func103.trans (congrArg some (by kernel_rfl))
  f312 := Tryd.func104.trans (congrArg some (by kernel_rfl))
  t0 := Tryd.underlying0
  a0 := Tryd.isAgg0
  z0 := Tryd.sizeOf0
  v0 := Tryd.zeroValue0
  t3 := Tryd.underlying3
  a3 := Tryd.isAgg3
  z3 := Tryd.sizeOf3
  v3 := Tryd.zeroValue3
  t4 := Tryd.underlying4
  a4 := Tryd.isAgg4
  z4 := Tryd.sizeOf4
  v4 := Tryd.zeroValue4
  t5 := Tryd.underlying5
  a5 := Tryd.isAgg5
  z5 := Tryd.sizeOf5
  v5 := Tryd.zeroValue5
  t9 := Tryd.underlying9
  a9 := Tryd.isAgg9
  z9 := Tryd.sizeOf9
  v9 := Tryd.zeroValue9
  t21 := Tryd.underlying21
  a21 := Tryd.isAgg21
  z21 := Tryd.sizeOf21
  v21 := Tryd.zeroValue21
  t31 := Tryd.underlying28
  a31 := Tryd.isAgg28
  z31 := Tryd.sizeOf28
  v31 := Tryd.zeroValue28
  t40 := Tryd.underlying81
  a40 := Tryd.isAgg81
  z40 := Tryd.sizeOf81
  v40 := Tryd.zeroValue81
  t46 := Tryd.underlying106
  a46 := Tryd.isAgg106
  z46 := Tryd.sizeOf106
  v46 := Tryd.zeroValue106
  t49 := Tryd.underlying122
  a49 := Tryd.isAgg122
  z49 := Tryd.sizeOf122
  v49 := Tryd.zeroValue122
  t51 := Tryd.underlying100
  a51 := Tryd.isAgg100
  z51 := Tryd.sizeOf100
  v51 := Tryd.zeroValue100
  t119 := Tryd.underlying79
  a119 := Tryd.isAgg79
  z119 := Tryd.sizeOf79
  t141 := Tryd.underlying102
  a141 := Tryd.isAgg102
  z141 := Tryd.sizeOf102
  v141 := Tryd.zeroValue102
  t152 := Tryd.underlying97
  a152 := Tryd.isAgg97
  z152 := Tryd.sizeOf97
  v152 := Tryd.zeroValue97
  t154 := Tryd.underlying99
  a154 := Tryd.isAgg99
  z154 := Tryd.sizeOf99
  v154 := Tryd.zeroValue99
  t193 := Tryd.underlying118
  a193 := Tryd.isAgg118
  z193 := Tryd.sizeOf118
  v193 := Tryd.zeroValue118
  t194 := Tryd.underlying119
  a194 := Tryd.isAgg119
  z194 := Tryd.sizeOf119
  v194 := Tryd.zeroValue119
  t196 := Tryd.underlying121
  a196 := Tryd.isAgg121
  z196 := Tryd.sizeOf121
  v196 := Tryd.zeroValue121
  t198 := Tryd.underlying124
  a198 := Tryd.isAgg124
  z198 := Tryd.sizeOf124
  v198 := Tryd.zeroValue124
  t201 := Tryd.underlying127
  a201 := Tryd.isAgg127
  z201 := Tryd.sizeOf127
  v201 := Tryd.zeroValue127
  t226 := Tryd.underlying137
  a226 := Tryd.isAgg137
  z226 := Tryd.sizeOf137
  v226 := Tryd.zeroValue137
  t227 := Tryd.underlying138
  a227 := Tryd.isAgg138
  z227 := Tryd.sizeOf138
  v227 := Tryd.zeroValue138
  g0 := by kernel_rfl
  g6 := by kernel_rfl }
open Go.RowKit Go.Lib in
/-- strings.Fields, the table by 'Lib.TabIs' (as strings.TrimSpace's contract). 'hg': the table's number, by its name: at a dump 'by kernel_rfl'. (LAID: no walk: one application.) -/
theorem Tryd.strings_Fields (s : ByteArray) (w : World) (hs : s.size < 4294967281) (hascii : ∀ (j : Nat) b, s.data.toList[j]? = some b → b.toNat < 128) (htab : Lib.TabIs Tryd.prog w "strings.asciiSpace" .u8 Lib.asciiSpaceTab) :
    Calls Tryd.prog 42 #[.string s] w fun e w' =>
      e = .returned (.slice (some ⟨w.heap.size, 0, none⟩) (Lib.fields s.data.toList).length (Lib.fields s.data.toList).length) ∧ w' = w.alloc (.cells ((Lib.fields s.data.toList).map fun l => Value.string ⟨l.toArray⟩).toArray 9) := Any.strings_Fields Tryd.lays157 (by kernel_rfl) (by kernel_rfl) s w hs hascii htab
end Go.Proofs
end
section
namespace Go.Proofs
open Go.Shelf
def Tryd.lays143_ren : Go.Shelf.Ren := ⟨fun | 143 => 97 | 219 => 76 | 217 => 92 | 225 => 91 | 224 => 90 | 267 => 93 | 266 => 105 | 314 => 106 | n => n, fun | 9 => 9 | 3 => 3 | 4 => 4 | 5 => 5 | 46 => 106 | 146 => 129 | 51 => 100 | n => n, fun | 1 => 2 | n => n⟩
theorem Tryd.lays143 : Go.Proofs.Lays.n143 Tryd.prog Tryd.lays143_ren := {
  mixed := by kernel_rfl
  f143 := Tryd.func97.trans (congrArg some (by kernel_rfl))
  f217 := Tryd.func92.trans (congrArg some (by kernel_rfl))
  f219 := Tryd.func76.trans (congrArg some (by kernel_rfl))
  f224 := Tryd.func90.trans (congrArg some (by kernel_rfl))
  f225 := Tryd.func91.trans (congrArg some (by kernel_rfl))
  f266 := Tryd.func105.trans (congrArg some (by kernel_rfl))
  f267 := Tryd.func93.trans (congrArg some (by kernel_rfl))
  f314 := Tryd.func106.trans (congrArg some (by kernel_rfl))
  t3 := Tryd.underlying3
  a3 := Tryd.isAgg3
  z3 := Tryd.sizeOf3
  v3 := Tryd.zeroValue3
  t4 := Tryd.underlying4
  a4 := Tryd.isAgg4
  z4 := Tryd.sizeOf4
  v4 := Tryd.zeroValue4
  t5 := Tryd.underlying5
  a5 := Tryd.isAgg5
  z5 := Tryd.sizeOf5
  v5 := Tryd.zeroValue5
  t9 := Tryd.underlying9
  a9 := Tryd.isAgg9
  z9 := Tryd.sizeOf9
  v9 := Tryd.zeroValue9
  t46 := Tryd.underlying106
  a46 := Tryd.isAgg106
  z46 := Tryd.sizeOf106
  v46 := Tryd.zeroValue106
  t51 := Tryd.underlying100
  a51 := Tryd.isAgg100
  z51 := Tryd.sizeOf100
  v51 := Tryd.zeroValue100
  t146 := Tryd.underlying129
  a146 := Tryd.isAgg129
  z146 := Tryd.sizeOf129
  v146 := Tryd.zeroValue129
  g1 := by kernel_rfl }
open Go.RowKit Go.Lib in
/-- strings.Index: "Index returns the index of the first instance of substr in s, or -1 if substr is not present in s.": AT A substr OF ONE BYTE c: IT RETURNS 'Lib.indexByte s c'; the world is as it was. (LAID: no walk: one application.) -/
theorem Tryd.strings_Index_one (s : ByteArray) (c : UInt8) (w : World) :
    Calls Tryd.prog 97 #[.string s, .string ⟨#[c]⟩] w fun e w' => e = .returned (.int .i64 (Lib.indexByte s.data.toList c)) ∧ w' = w := Any.strings_Index_one Tryd.lays143 s c w
def Tryd.lays150_ren : Go.Shelf.Ren := ⟨fun | 150 => 36 | 153 => 54 | 152 => 72 | 226 => 73 | 227 => 74 | 228 => 75 | 137 => 88 | 119 => 89 | 224 => 90 | 225 => 91 | 217 => 92 | 266 => 105 | n => n, fun | 9 => 9 | 4 => 4 | 3 => 3 | 5 => 5 | 21 => 21 | 117 => 88 | 116 => 87 | 0 => 0 | 46 => 106 | 124 => 107 | n => n, fun | n => n⟩
theorem Tryd.lays150 : Go.Proofs.Lays.n150 Tryd.prog Tryd.lays150_ren := {
  mixed := by kernel_rfl
  f119 := Tryd.func89.trans (congrArg some (by kernel_rfl))
  f137 := Tryd.func88.trans (congrArg some (by kernel_rfl))
  f150 := Tryd.func36.trans (congrArg some (by kernel_rfl))
  f152 := Tryd.func72.trans (congrArg some (by kernel_rfl))
  f153 := Tryd.func54.trans (congrArg some (by kernel_rfl))
  f217 := Tryd.func92.trans (congrArg some (by kernel_rfl))
  f224 := Tryd.func90.trans (congrArg some (by kernel_rfl))
  f225 := Tryd.func91.trans (congrArg some (by kernel_rfl))
  f226 := Tryd.func73.trans (congrArg some (by kernel_rfl))
  f227 := Tryd.func74.trans (congrArg some (by kernel_rfl))
  f228 := Tryd.func75.trans (congrArg some (by kernel_rfl))
  f266 := Tryd.func105.trans (congrArg some (by kernel_rfl))
  t0 := Tryd.underlying0
  a0 := Tryd.isAgg0
  z0 := Tryd.sizeOf0
  v0 := Tryd.zeroValue0
  t3 := Tryd.underlying3
  a3 := Tryd.isAgg3
  z3 := Tryd.sizeOf3
  v3 := Tryd.zeroValue3
  t4 := Tryd.underlying4
  a4 := Tryd.isAgg4
  z4 := Tryd.sizeOf4
  v4 := Tryd.zeroValue4
  t5 := Tryd.underlying5
  a5 := Tryd.isAgg5
  z5 := Tryd.sizeOf5
  v5 := Tryd.zeroValue5
  t9 := Tryd.underlying9
  a9 := Tryd.isAgg9
  z9 := Tryd.sizeOf9
  v9 := Tryd.zeroValue9
  t21 := Tryd.underlying21
  a21 := Tryd.isAgg21
  z21 := Tryd.sizeOf21
  v21 := Tryd.zeroValue21
  t46 := Tryd.underlying106
  a46 := Tryd.isAgg106
  z46 := Tryd.sizeOf106
  v46 := Tryd.zeroValue106
  t116 := Tryd.underlying87
  a116 := Tryd.isAgg87
  z116 := Tryd.sizeOf87
  t117 := Tryd.underlying88
  a117 := Tryd.isAgg88
  z117 := Tryd.sizeOf88
  v117 := Tryd.zeroValue88
  t124 := Tryd.underlying107
  a124 := Tryd.isAgg107
  z124 := Tryd.sizeOf107
  v124 := Tryd.zeroValue107 }
open Go.RowKit Go.Lib in
theorem Tryd.strings_ContainsAny_laid (s chars : ByteArray) (w : World) (hs : s.size < 4294967281) (hcs : chars.size < 4294967281) (has : ∀ (j : Nat) b, s.data.toList[j]? = some b → b.toNat < 128) (hac : ∀ (j : Nat) b, chars.data.toList[j]? = some b → b.toNat < 128) :
    Calls Tryd.prog 36 #[.string s, .string chars] w fun e w' => e = .returned (.bool (Lib.containsAny s.data.toList chars.data.toList)) ∧ Below w.heap.size w w' := Any.strings_ContainsAny_laid Tryd.lays150 (by kernel_rfl) s chars w hs hcs has hac
end Go.Proofs
end
section
namespace Go.Proofs.YtniehnkiicliaaaDoor.M
open Go.RowKit Go.Proofs.YtniehnkiicliaaaDoorW.PrintWords
set_option linter.unusedVariables false
def allAscii (l : List UInt8) : Bool := l.all fun b => decide (b.toNat < 128)
def strings_ContainsAny.f (a0 a1 : ByteArray) : Option Bool := if a0.size < 4294967281 ∧ a1.size < 4294967281 ∧ allAscii a0.data.toList = true ∧ allAscii a1.data.toList = true then some (Lib.containsAny a0.data.toList a1.data.toList) else none
theorem allAscii_at {l : List UInt8} (h : allAscii l = true) : ∀ (j : Nat) b, l[j]? = some b → b.toNat < 128 := by
  intro j b hj
  simpa using List.all_eq_true.1 h b (List.mem_of_getElem? hj)
theorem strings_ContainsAny.calls (a0 a1 : ByteArray) (r : Bool) (w : World) (h : strings_ContainsAny.f a0 a1 = some r) :
    Calls Tryd.prog 36 #[.string a0, .string a1] w fun e w' => e = .returned (.bool r) ∧ Below w.heap.size w w' := by
  unfold strings_ContainsAny.f at h
  split at h
  case isFalse => cases h
  rename_i hb
  obtain rfl := Option.some.inj h
  exact Tryd.strings_ContainsAny_laid a0 a1 w hb.1 hb.2.1 (allAscii_at hb.2.2.1) (allAscii_at hb.2.2.2)
end Go.Proofs.YtniehnkiicliaaaDoor.M
end
section
namespace Go.Proofs.YtniehnkiicliaaaDoor.M
open Go.RowKit Go.Proofs.YtniehnkiicliaaaDoorW.PrintWords
set_option linter.unusedVariables false
def strings_Cut.f (a0 a1 : ByteArray) : Option (ByteArray × ByteArray × Bool) := if a0.size < 4294967281 then some (⟨(Lib.cut a0.data.toList a1.data.toList).1.toArray⟩, ⟨(Lib.cut a0.data.toList a1.data.toList).2.1.toArray⟩, (Lib.cut a0.data.toList a1.data.toList).2.2) else none
theorem strings_Cut.calls (a0 a1 : ByteArray) (r1 r2 : ByteArray) (r3 : Bool) (w : World) (hG : GW w) (h : strings_Cut.f a0 a1 = some (r1, r2, r3)) :
    Calls Tryd.prog 37 #[.string a0, .string a1] w fun e w' => e = .returned (.tuple #[.string r1, .string r2, .bool r3]) ∧ Below w.heap.size w w' := by
  unfold strings_Cut.f at h
  split at h
  case isFalse => cases h
  rename_i hb
  have h' := Option.some.inj h
  simp only [Prod.mk.injEq] at h'
  obtain ⟨rfl, rfl, rfl⟩ := h'
  obtain ⟨m, hm⟩ := hG.max
  refine (Tryd.strings_Cut a0 a1 m w hb hm).mono ?_
  rintro e w' ⟨rfl, n, rfl⟩
  exact ⟨rfl, pw_below_drewN (Below.refl _ _) n⟩
end Go.Proofs.YtniehnkiicliaaaDoor.M
end
section
namespace Go.Proofs.YtniehnkiicliaaaDoor.M
open Go.RowKit Go.Proofs.YtniehnkiicliaaaDoorW.PrintWords
set_option linter.unusedVariables false
theorem strings_fresh (w : World) (xs : List ByteArray) (cells : Array Value) (n cap : Nat) (hn : xs.length = n) (hc : n ≤ cap) (hm : cap ≤ maxLen) (hs : cells.size = cap) (ht : cells.toList.take n = xs.map Value.string) :
    Kd.R Kd.string 9 (w.alloc (.cells cells 9)) w.heap.size (fun _ => True) (.slice (some ⟨w.heap.size, 0, none⟩) n cap) xs := by
  subst hn
  refine Kd.R_of_own ?_ (fun _ _ => trivial)
  refine ⟨by simp [encs], .inr ⟨w.heap.size, cap, cells, rfl, Nat.le_refl _, by show (w.heap.push _)[w.heap.size]? = _; rw [Array.getElem?_push_size], hc, hm, by rw [hs, Nat.mul_one], ?_⟩⟩
  rw [Nat.mul_one, ht]
  rfl
theorem strings_read {w : World} {A : Option Addr} {n : Nat} {xs : List ByteArray} (h : Kd.C Kd.string w A n xs) (h0 : 0 < n) :
    ∃ b o, A = some ⟨b, o, none⟩ ∧ b < w.heap.size ∧ ∀ (j : Nat) x, xs[j]? = some x → w.cell? ⟨b, o + j, none⟩ = some (.string x) := by
  obtain ⟨ad, e, hc⟩ := Kd.at_string h 0 (Int.le_refl _) (by omega)
  obtain ⟨b, o, sp⟩ := ad
  have hsp : sp = none := by
    cases sp with
    | none => rfl
    | some s =>
      exfalso
      unfold World.cell? at hc
      simp only [Addr.add] at hc
      split at hc
      · simp at hc
      · cases hc
  subst hsp
  refine ⟨b, o, e, World.block_lt_of_cell? w _ hc, ?_⟩
  intro j x hx
  have hl : xs.length = n := h.1
  have hj : j < xs.length := by
    rcases Nat.lt_or_ge j xs.length with h' | h'
    · exact h'
    · rw [List.getElem?_eq_none h'] at hx; cases hx
  obtain ⟨ad', e', hc'⟩ := Kd.at_string h (j : Int) (by omega) (by omega)
  have ea : ad' = ⟨b, o, none⟩ := Option.some.inj (e'.symm.trans e)
  subst ea
  have ex : rdOf ByteArray.empty xs (j : Int) = x := by
    unfold rdOf
    rw [Int.toNat_natCast, List.getD_eq_getElem?_getD, hx]; rfl
  rw [ex] at hc'
  by_cases e0 : j = 0
  · subst e0; simpa [Addr.add] using hc'
  · simpa [Addr.add, e0] using hc'
end Go.Proofs.YtniehnkiicliaaaDoor.M
end
section
namespace Go.Proofs.YtniehnkiicliaaaDoor.M
open Go.RowKit Go.Proofs.YtniehnkiicliaaaDoorW.PrintWords
set_option linter.unusedVariables false
def joinB (l : List ByteArray) (sep : ByteArray) : List UInt8 := Lib.join (l.map (·.data.toList)) sep.data.toList
def strings_Join.f (l0 : List ByteArray) (a1 : ByteArray) : Option ByteArray := if l0.length ≤ 140737488355328 ∧ (joinB l0 a1).length ≤ 140737488355328 then some ⟨(joinB l0 a1).toArray⟩ else none
theorem strings_Join.calls (A0 : Option Addr) (c0 : Nat) (l0 : List ByteArray) (a1 : ByteArray) (r : ByteArray) (w : World) (hr0 : Kd.C Kd.string w A0 l0.length l0) (hc0 : l0.length ≤ c0) (h : strings_Join.f l0 a1 = some r) :
    Calls Tryd.prog 56 #[.slice A0 l0.length c0, .string a1] w fun e w' => e = .returned (.string r) ∧ Below w.heap.size w w' := by
  unfold strings_Join.f at h
  split at h
  case isFalse => cases h
  rename_i hb
  obtain rfl := Option.some.inj h
  by_cases h0 : l0 = []
  · subst h0
    refine (Tryd.strings_Join_none A0 c0 a1 w).mono ?_
    rintro e w' ⟨rfl, rfl⟩
    exact ⟨rfl, Below.refl _ _⟩
  · obtain ⟨b, o, rfl, hbk, hcell⟩ := strings_read hr0 (List.length_pos_iff.2 h0)
    refine (Tryd.strings_Join b o c0 l0 a1 w hcell hbk hb.1 hc0 hb.2).mono ?_
    rintro e w' ⟨rfl, hbw⟩
    exact ⟨rfl, hbw⟩
end Go.Proofs.YtniehnkiicliaaaDoor.M
end
section
namespace Go.Proofs.YtniehnkiicliaaaDoor.M
open Go.RowKit Go.Proofs.YtniehnkiicliaaaDoorW.PrintWords
set_option linter.unusedVariables false
def slices_Grow_string_string.f (l0 : List ByteArray) (a1 : Int) : Option (List ByteArray) := if l0 = [] ∧ 0 ≤ a1 ∧ a1 ≤ 8796093022208 then some [] else none
set_option maxHeartbeats 4000000 in
set_option maxRecDepth 100000 in
theorem slices_Grow_string_string.calls_nil (a1 : Int) (r : List ByteArray) (w : World) (h : slices_Grow_string_string.f [] a1 = some r) :
    Calls Tryd.prog 79 #[.slice none 0 0, .int .i64 a1] w fun e w' => ∃ v0_ : Value, e = .returned (v0_) ∧ Kd.R Kd.string 9 w' w.heap.size (fun _ => True) v0_ r ∧ Below w.heap.size w w' := by
  unfold slices_Grow_string_string.f at h
  split at h
  case isFalse => cases h
  rename_i hb
  obtain rfl := Option.some.inj h
  clear h
  obtain ⟨-, h0, h1⟩ := hb
  obtain ⟨n, rfl⟩ := Int.eq_ofNat_of_zero_le h0
  clear h0
  by_cases hz : n = 0
  · subst hz
    go_enter Tryd.func79, Tryd.ntmps79
    go_wp2
    all_goals (go_ret; exact ⟨_, rfl, Kd.R_nil _ _ _ _ _, Below.refl _ _⟩)
  · have hmap : (Tryd.prog.info? 9).map (fun i => (i.zero, i.size, i.bytes)) = some (some (.string ⟨#[]⟩), 1, 16) := by kernel_rfl
    obtain ⟨i, hi, hi2⟩ := Option.map_eq_some_iff.1 hmap
    simp only [Prod.mk.injEq] at hi2
    obtain ⟨hi0, hi1, hib⟩ := hi2
    have hrz := fun ty => Lib.run_append_nil_zeros (P := Tryd.prog) w 28 3 ty 9 i (.string ⟨#[]⟩) .i64 .i64 Tryd.underlying28 Tryd.underlying3 hi hi0 n (by omega) (by omega) (by omega) (by rw [hib]; omega)
    clear hmap hi hi0 hi1 hib
    have hGn : n ≤ grownCap w n 0 9 := grownCap_ge w _ _ _
    have hG := grownCap_le_maxLen w n 0 9 (by unfold maxLen; omega)
    generalize grownCap w n 0 9 = G at hrz hGn hG
    go_enter Tryd.func79, Tryd.ntmps79
    go_wp2_with (at_builtin; refine Lib.wpList_append_run _ rfl _ _ _ _ rfl _ _ rfl rfl _ _ (hrz _) ?_)
    all_goals (go_ret; refine ⟨_, rfl, ?_, below_alloc (below_drew (Below.refl _ w)) _⟩)
    all_goals exact strings_fresh w.drew [] _ 0 G rfl (Nat.zero_le _) hG (by rw [Array.size_append, size_zeroCells, size_zeroCells]; show n * 1 + (G - n) * 1 = G; omega) (by simp)
end Go.Proofs.YtniehnkiicliaaaDoor.M
end
section
/- Laid by this session's program hbprint.py out of the translation: the function slices.Concat   string string  and its contract. -/
namespace Go.Proofs.YtniehnkiicliaaaDoor.M
open Go.RowKit Go.Proofs.YtniehnkiicliaaaDoorW.PrintWords Go.Proofs.YtniehnkiicliaaaDoorW.PrintLast Go.Proofs.YtniehnkiicliaaaDoorW.PrintMore
attribute [local go_sem] max2_int min2_int max_two min_two max_three min_three max_four min_four
set_option linter.unusedVariables false
set_option linter.unusedSimpArgs false
mutual
def slices_Concat_string_string.l0 : Nat → List (List ByteArray) → Int → List (List ByteArray) → Int → Int → Option (List ByteArray)
  | 0, _, _, _, _, _ => none
  | k + 1, x0, x3, x9, x10, x11 => if x11 < x10 then (if 0 ≤ x11 then (if x11 < (x9.length : Int) then (if (wrap64 (x3 + ((rd_L1 x9 x11).length : Int))) < 0 then (none) else (slices_Concat_string_string.l0 k x0 (wrap64 (x3 + ((rd_L1 x9 x11).length : Int))) x9 x10 (wrap64 (x11 + 1)))) else (none)) else (none)) else ((slices_Grow_string_string.f ([] : List ByteArray) x3).bind fun t102 => (slices_Concat_string_string.l1 k t102 x0 (x0.length : Int) 0))
def slices_Concat_string_string.l1 : Nat → List ByteArray → List (List ByteArray) → Int → Int → Option (List ByteArray)
  | 0, _, _, _, _ => none
  | k + 1, x6, x25, x26, x27 => if x27 < x26 then (if 0 ≤ x27 then (if x27 < (x25.length : Int) then (if x6.length + (rd_L1 x25 x27).length < 8796093022208 then (slices_Concat_string_string.l1 k (x6 ++ (rd_L1 x25 x27)) x25 x26 (wrap64 (x27 + 1))) else (none)) else (none)) else (none)) else (some x6)
end
def slices_Concat_string_string.f (k : Nat) (l0 : List (List ByteArray)) : Option (List ByteArray) := slices_Concat_string_string.l0 k l0 0 l0 (l0.length : Int) 0
theorem slices_Concat_string_string.mono_l : ∀ k, (∀ y0 y1 y2 y3 y4, LeO (slices_Concat_string_string.l0 k y0 y1 y2 y3 y4) (slices_Concat_string_string.l0 (k + 1) y0 y1 y2 y3 y4)) ∧ (∀ y0 y1 y2 y3, LeO (slices_Concat_string_string.l1 k y0 y1 y2 y3) (slices_Concat_string_string.l1 (k + 1) y0 y1 y2 y3))
  | 0 => ⟨fun _ _ _ _ _ r h => by simp [slices_Concat_string_string.l0] at h, fun _ _ _ _ r h => by simp [slices_Concat_string_string.l1] at h⟩
  | k + 1 => by
    obtain ⟨ih0, ih1⟩ := slices_Concat_string_string.mono_l k
    refine ⟨?_, ?_⟩
    · intro y0 y1 y2 y3 y4
      unfold slices_Concat_string_string.l0
      repeat' first
      | (with_reducible exact ih0 _ _ _ _ _)
      | (with_reducible exact ih1 _ _ _ _)
      | (with_reducible exact LeO.refl _)
      | (with_reducible exact LeO.none _)
      | (with_reducible refine LeO.ite ?_ ?_)
      | (with_reducible refine LeO.bind ?_ (fun _ => ?_))
      | exact ih0 _ _ _ _ _
      | exact ih1 _ _ _ _
      | exact LeO.none _
      | refine LeO.ite ?_ ?_
      | refine LeO.bind ?_ (fun _ => ?_)
    · intro y0 y1 y2 y3
      unfold slices_Concat_string_string.l1
      repeat' first
      | (with_reducible exact ih0 _ _ _ _ _)
      | (with_reducible exact ih1 _ _ _ _)
      | (with_reducible exact LeO.refl _)
      | (with_reducible exact LeO.none _)
      | (with_reducible refine LeO.ite ?_ ?_)
      | (with_reducible refine LeO.bind ?_ (fun _ => ?_))
      | exact ih0 _ _ _ _ _
      | exact ih1 _ _ _ _
      | exact LeO.none _
      | refine LeO.ite ?_ ?_
      | refine LeO.bind ?_ (fun _ => ?_)
theorem slices_Concat_string_string.mono : ∀ a0 k, LeO (slices_Concat_string_string.f k a0) (slices_Concat_string_string.f (k + 1) a0) := by
  intro a0 k
  obtain ⟨ih0, ih1⟩ := slices_Concat_string_string.mono_l k
  unfold slices_Concat_string_string.f
  repeat' first
      | (with_reducible exact ih0 _ _ _ _ _)
      | (with_reducible exact ih1 _ _ _ _)
      | (with_reducible exact LeO.refl _)
      | (with_reducible exact LeO.none _)
      | (with_reducible refine LeO.ite ?_ ?_)
      | (with_reducible refine LeO.bind ?_ (fun _ => ?_))
      | exact ih0 _ _ _ _ _
      | exact ih1 _ _ _ _
      | exact LeO.none _
      | refine LeO.ite ?_ ?_
      | refine LeO.bind ?_ (fun _ => ?_)
set_option maxHeartbeats 8000000 in
set_option maxRecDepth 100000 in
theorem slices_Concat_string_string.calls (k : Nat) (A0 : Option Addr) (c0 : Nat) (l0 : List (List ByteArray)) (r : List ByteArray) (w : World) (hr0 : Kd.C (Kd.slice 9 Kd.string) w A0 l0.length l0) (hc0 : l0.length ≤ c0) (h : slices_Concat_string_string.f k l0 = some r) :
    Calls Tryd.prog 57 #[.slice A0 l0.length c0] w fun e w' => ∃ v0_ : Value, e = .returned (v0_) ∧ Kd.R Kd.string 9 w' w.heap.size (fun _ => True) v0_ r ∧ Below w.heap.size w w' := by
  have HR0 := Aside0.mk hr0
  have HC0 := Aside0.mk hc0
  clear hr0 hc0
  have HB := Aside0.mk (Below.refl w.heap.size w)
  have H : (slices_Concat_string_string.l0 k l0 0 l0 (l0.length : Int) 0) = some r := h
  clear h
  have H' := Aside0.mk H
  clear H
  go_enter Tryd.func57, Tryd.ntmps57
  go_wp2
  go_loopg [3, 11] k (fun kq v3 v11 w' => ∃ (x3_1 : Int) (x11_1 : Int), v3 = .int .i64 x3_1 ∧ v11 = .int .i64 x11_1 ∧ Aside0 (slices_Concat_string_string.l0 kq l0 x3_1 l0 (l0.length : Int) x11_1 = some r) ∧ Aside0 (kq ≤ k) ∧ Aside0 (Below w.heap.size w w'))
  case atStart => exact ⟨(0), (0), (by first | rfl | (simp; done) | (simp [*]; done)), (by first | rfl | (simp; done) | (simp [*]; done)), H', ⟨Nat.le_refl _⟩, ⟨by repeat (first | (with_reducible first | exact HB.out | apply below_alloc | apply pw_below_drewN | apply below_drew1) | exact HB.out)⟩⟩
  case round =>
    clear H'
    obtain ⟨x3_1, x11_1, rfl, rfl, HA, HK1, HB⟩ := hrel
    cases gk with
    | zero => exact absurd HA.out (by simp [slices_Concat_string_string.l0])
    | succ k1 =>
      have H := HA.out
      clear HA
      simp only [slices_Concat_string_string.l0] at H
      by_cases c2 : x11_1 < (l0.length : Int)
      · rw [if_pos c2] at H
        have c2b0 : decide (x11_1 < (l0.length : Int)) = true := decide_eq_true c2
        clear c2
        by_cases c3 : 0 ≤ x11_1
        · rw [if_pos c3] at H
          have c3b0 : decide (0 ≤ x11_1) = true := decide_eq_true c3
          clear c3
          by_cases c4 : x11_1 < (l0.length : Int)
          · rw [if_pos c4] at H
            have c4b0 : decide (x11_1 < (l0.length : Int)) = true := decide_eq_true c4
            clear c4
            by_cases c5 : (wrap64 (x3_1 + ((rd_L1 l0 x11_1).length : Int))) < 0
            · rw [if_pos c5] at H
              exact absurd H (by simp)
            · rw [if_neg c5] at H
              have c5b0 : decide ((wrap64 (x3_1 + ((rd_L1 l0 x11_1).length : Int))) < 0) = false := decide_eq_false c5
              clear c5
              have H' := Aside0.mk H
              clear H
              have p101 : 0 ≤ (x11_1 : Int) := of_decide_eq_true (by first | (with_reducible assumption) | assumption)
              have q101 : x11_1 < (l0.length : Int) := of_decide_eq_true (by first | (with_reducible assumption) | assumption)
              obtain ⟨ad101, A101_0, c101_0, e101, hx101_0, hl101_0, hi101_0⟩ := at_L1 HR0.out x11_1 p101 q101
              cases e101
              replace hx101_0 := (HB.out.cell (World.block_lt_of_cell? w _ hx101_0)).trans hx101_0
              have HR101_0 := Aside0.mk hi101_0
              have HC101_0 := Aside0.mk hl101_0
              clear hi101_0 hl101_0
              replace p101 := eq_true p101
              replace q101 := eq_true q101
              go_wp2
              go_roundg k1
              case measure => have := HK1.out; omega
              case rel => exact ⟨(wrap64 (x3_1 + ((rd_L1 l0 x11_1).length : Int))), (wrap64 (x11_1 + 1)), (by first | rfl | (simp; done) | (simp [*]; done)), (by first | rfl | (simp; done) | (simp [*]; done)), H', ⟨by have := HK1.out; omega⟩, ⟨by repeat (first | (with_reducible first | exact HB.out | apply below_alloc | apply pw_below_drewN | apply below_drew1) | exact HB.out)⟩⟩
          · rw [if_neg c4] at H
            exact absurd H (by simp)
        · rw [if_neg c3] at H
          exact absurd H (by simp)
      · rw [if_neg c2] at H
        have c2b0 : decide (x11_1 < (l0.length : Int)) = false := decide_eq_false c2
        clear c2
        replace H := Option.bind_eq_some_iff.mp H
        obtain ⟨t102, A60, H⟩ := H
        replace H : (slices_Concat_string_string.l1 k1 t102 l0 (l0.length : Int) 0) = some r := H
        have A6 := Aside0.mk A60
        clear A60
        have H' := Aside0.mk H
        clear H
        go_wp2_with (first | ((with_reducible refine gate_callee (f := 79) rfl ?_); refine goesL_ (some 24) rfl rfl Tryd.func79 (by kernel_rfl) rfl #[.slice none 0 0, .int .i64 x3_1] rfl (by (try simp only [List.map_toArray, List.map_cons, List.map_nil]); first | done | rfl | (simp only [List.length_drop, List.length_take]; rfl)) ?_; (refine (slices_Grow_string_string.calls_nil x3_1 t102 _ A6.out).mono ?_); rintro e w7 ⟨v103, rfl, ho0, hb⟩; refine ⟨_, rfl, ?_⟩; have n0_ := Aside0.mk (Kd.R_lower ho0 (below_size (by repeat (first | (with_reducible first | exact HB.out | apply below_alloc | apply pw_below_drewN | apply below_drew1) | exact HB.out)))); have n1_ := Aside0.mk (below_step (by repeat (first | (with_reducible first | exact HB.out | apply below_alloc | apply pw_below_drewN | apply below_drew1) | exact HB.out)) hb); clear HB; have HO104 := n0_; have HB := n1_; clear n0_ n1_; (try clear hb); (try clear hb2); (try clear hk); (try clear hi); (try clear ho0)))
        go_loopg [6, 27] k1 (fun kq v6 v27 w' => ∃ (x6_2 : List ByteArray) (x27_2 : Int), v27 = .int .i64 x27_2 ∧ Aside0 (slices_Concat_string_string.l1 kq x6_2 l0 (l0.length : Int) x27_2 = some r) ∧ Aside0 (kq ≤ k1) ∧ Aside0 (Kd.R Kd.string 9 w' w.heap.size (fun _ => True) v6 x6_2) ∧ Aside0 (Below w.heap.size w w'))
        case atStart => exact ⟨(t102), (0), (by first | rfl | (simp; done) | (simp [*]; done)), H', ⟨Nat.le_refl _⟩, ⟨by (with_reducible repeat (first | apply Kd.R_alloc | apply Kd.R_drewN | apply Kd.R_drew)); exact HO104.out⟩, ⟨by repeat (first | (with_reducible first | exact HB.out | apply below_alloc | apply pw_below_drewN | apply below_drew1) | exact HB.out)⟩⟩
        case round =>
          clear H'
          try clear c1
          try clear p1
          try clear q1
          try clear hx1
          try clear c2
          try clear c2b0
          try clear p2
          try clear c3
          try clear c3b0
          try clear c4
          try clear c4b0
          try clear c5
          try clear c5b0
          try clear p6
          try clear c7
          try clear hx101_0
          try clear p101
          try clear q101
          obtain ⟨x6_2, x27_2, rfl, HA, HK2, HO_6, HB⟩ := hrel
          cases gk with
          | zero => exact absurd HA.out (by simp [slices_Concat_string_string.l1])
          | succ k2 =>
            have H := HA.out
            clear HA
            simp only [slices_Concat_string_string.l1] at H
            by_cases c8 : x27_2 < (l0.length : Int)
            · rw [if_pos c8] at H
              have c8b0 : decide (x27_2 < (l0.length : Int)) = true := decide_eq_true c8
              clear c8
              by_cases c9 : 0 ≤ x27_2
              · rw [if_pos c9] at H
                have c9b0 : decide (0 ≤ x27_2) = true := decide_eq_true c9
                clear c9
                by_cases c10 : x27_2 < (l0.length : Int)
                · rw [if_pos c10] at H
                  have c10b0 : decide (x27_2 < (l0.length : Int)) = true := decide_eq_true c10
                  clear c10
                  by_cases c11 : x6_2.length + (rd_L1 l0 x27_2).length < 8796093022208
                  · rw [if_pos c11] at H
                    have LMc11 := Aside0.mk c11
                    clear c11
                    obtain ⟨y106, hy106⟩ : ∃ y_ : List ByteArray, y_ = (x6_2 ++ (rd_L1 l0 x27_2)) := ⟨_, rfl⟩
                    replace H : (slices_Concat_string_string.l1 k2 y106 l0 (l0.length : Int) (wrap64 (x27_2 + 1))) = some r := by first | (rw [hy106]; with_reducible exact H) | (have H2_ := (Option.bind_some _ _).symm.trans H; rw [hy106]; with_reducible exact H2_) | (have H2_ := (Option.bind_some _ _).symm.trans H; with_reducible exact H2_) | with_reducible exact H | (rw [hy106]; exact H) | exact H
                    have Ny106 := Aside0.mk hy106
                    clear hy106
                    have H' := Aside0.mk H
                    clear H
                    have p105 : 0 ≤ (x27_2 : Int) := of_decide_eq_true (by first | (with_reducible assumption) | assumption)
                    have q105 : x27_2 < (l0.length : Int) := of_decide_eq_true (by first | (with_reducible assumption) | assumption)
                    obtain ⟨ad105, A105_0, c105_0, e105, hx105_0, hl105_0, hi105_0⟩ := at_L1 HR0.out x27_2 p105 q105
                    cases e105
                    replace hx105_0 := (HB.out.cell (World.block_lt_of_cell? w _ hx105_0)).trans hx105_0
                    have HR105_0 := Aside0.mk hi105_0
                    have HC105_0 := Aside0.mk hl105_0
                    clear hi105_0 hl105_0
                    replace p105 := eq_true p105
                    replace q105 := eq_true q105
                    go_wp2_with (first | ((with_reducible refine gate_builtin (b := .append) (xs := #[.tmp 31, .tmp 32]) rfl ?_); at_builtin; refine Kd.R_append_rows Kd.string (w0 := w) w.heap.size rfl (.tmp 31) (.tmp 32) 28 9 (.string ⟨#[]⟩) 16 rfl Tryd.underlying28 info9 rfl (by decide) (by omega) u6 x6_2 (rd_L1 l0 x27_2) _ _ _ (fun _ => True) (fun _ => False) rfl rfl ?aO ?aR (fun _ _ h => h) (fun _ h => h.elim) ?aF ?aB ?aS ?aL ?_; (case aR => repeat (first | exact (Kd.C_below HR105_0.out HB.out) | (with_reducible refine Kd.C_alloc ?_ _) | (with_reducible refine Kd.C_drewN ?_ _) | (with_reducible refine Kd.C_drew ?_))); (case aB => exact (by repeat (first | (with_reducible first | exact HB.out | apply below_alloc | apply pw_below_drewN | apply below_drew1) | exact HB.out))); (case aF => exact (fun _ _ => trivial)); (case aO => exact (by (with_reducible repeat (first | apply Kd.R_alloc | apply Kd.R_drewN | apply Kd.R_drew)); exact HO_6.out)); (case aS => exact (below_size (by repeat (first | (with_reducible first | exact HB.out | apply below_alloc | apply pw_below_drewN | apply below_drew1) | exact HB.out)))); (case aL => have := LMc11.out; omega); intro v107 w12 ho hb hg hat; rw [← Ny106.out] at ho; have n0_ := Aside0.mk (hb); have n1_ := Aside0.mk (ho); clear HB; clear HO_6; have HB := n0_; have HO108 := n1_; clear n0_ n1_; clear ho hb hg hat))
                    go_roundg k2
                    case measure => have := HK1.out; have := HK2.out; omega
                    case rel => exact ⟨(y106), (wrap64 (x27_2 + 1)), (by first | rfl | (simp; done) | (simp [*]; done)), H', ⟨by have := HK1.out; have := HK2.out; omega⟩, ⟨by (with_reducible repeat (first | apply Kd.R_alloc | apply Kd.R_drewN | apply Kd.R_drew)); exact HO108.out⟩, ⟨by repeat (first | (with_reducible first | exact HB.out | apply below_alloc | apply pw_below_drewN | apply below_drew1) | exact HB.out)⟩⟩
                  · rw [if_neg c11] at H
                    exact absurd H (by simp)
                · rw [if_neg c10] at H
                  exact absurd H (by simp)
              · rw [if_neg c9] at H
                exact absurd H (by simp)
            · rw [if_neg c8] at H
              have c8b0 : decide (x27_2 < (l0.length : Int)) = false := decide_eq_false c8
              clear c8
              obtain rfl := Option.some.inj H
              go_wp2
              go_ret
              exact ⟨_, by first | rfl | (simp [errW_none, errW_some] <;> rfl) | (simp [*, errW_none, errW_some] <;> rfl), by (with_reducible repeat (first | apply Kd.R_alloc | apply Kd.R_drewN | apply Kd.R_drew)); exact HO_6.out, by repeat (first | (with_reducible first | exact HB.out | apply below_alloc | apply pw_below_drewN | apply below_drew1) | exact HB.out)⟩
end Go.Proofs.YtniehnkiicliaaaDoor.M
end
section
/- Laid by this session's program hbprint.py out of the translation: the function hornbook/glyph.part1 and its contract. -/
namespace Go.Proofs.YtniehnkiicliaaaDoor.M
open Go.RowKit Go.Proofs.YtniehnkiicliaaaDoorW.PrintWords Go.Proofs.YtniehnkiicliaaaDoorW.PrintLast Go.Proofs.YtniehnkiicliaaaDoorW.PrintMore
attribute [local go_sem] max2_int min2_int max_two min_two max_three min_three max_four min_four
set_option linter.unusedVariables false
set_option linter.unusedSimpArgs false
def glyph_part1.f  : Option (List ByteArray) := some (([(⟨#[115, 112, 97, 99, 101, 61, 48, 48, 50, 48, 32, 101, 120, 99, 108, 97, 109, 61, 48, 48, 50, 49, 32, 113, 117, 111, 116, 101, 100, 98, 108, 61, 48, 48, 50, 50, 32, 110, 117, 109, 98, 101, 114, 115, 105, 103, 110, 61, 48, 48, 50, 51, 32, 100, 111, 108, 108, 97, 114, 61, 48, 48, 50, 52, 32, 112, 101, 114, 99, 101, 110, 116, 61, 48, 48, 50, 53]⟩ : ByteArray), (⟨#[97, 109, 112, 101, 114, 115, 97, 110, 100, 61, 48, 48, 50, 54, 32, 113, 117, 111, 116, 101, 115, 105, 110, 103, 108, 101, 61, 48, 48, 50, 55, 32, 112, 97, 114, 101, 110, 108, 101, 102, 116, 61, 48, 48, 50, 56, 32, 112, 97, 114, 101, 110, 114, 105, 103, 104, 116, 61, 48, 48, 50, 57, 32, 97, 115, 116, 101, 114, 105, 115, 107, 61, 48, 48, 50, 65, 32, 112, 108, 117, 115, 61, 48, 48, 50, 66]⟩ : ByteArray), (⟨#[99, 111, 109, 109, 97, 61, 48, 48, 50, 67, 32, 104, 121, 112, 104, 101, 110, 61, 48, 48, 50, 68, 32, 112, 101, 114, 105, 111, 100, 61, 48, 48, 50, 69, 32, 115, 108, 97, 115, 104, 61, 48, 48, 50, 70, 32, 122, 101, 114, 111, 61, 48, 48, 51, 48, 32, 111, 110, 101, 61, 48, 48, 51, 49]⟩ : ByteArray), (⟨#[116, 119, 111, 61, 48, 48, 51, 50, 32, 116, 104, 114, 101, 101, 61, 48, 48, 51, 51, 32, 102, 111, 117, 114, 61, 48, 48, 51, 52, 32, 102, 105, 118, 101, 61, 48, 48, 51, 53, 32, 115, 105, 120, 61, 48, 48, 51, 54, 32, 115, 101, 118, 101, 110, 61, 48, 48, 51, 55]⟩ : ByteArray), (⟨#[101, 105, 103, 104, 116, 61, 48, 48, 51, 56, 32, 110, 105, 110, 101, 61, 48, 48, 51, 57, 32, 99, 111, 108, 111, 110, 61, 48, 48, 51, 65, 32, 115, 101, 109, 105, 99, 111, 108, 111, 110, 61, 48, 48, 51, 66, 32, 108, 101, 115, 115, 61, 48, 48, 51, 67, 32, 101, 113, 117, 97, 108, 61, 48, 48, 51, 68]⟩ : ByteArray), (⟨#[103, 114, 101, 97, 116, 101, 114, 61, 48, 48, 51, 69, 32, 113, 117, 101, 115, 116, 105, 111, 110, 61, 48, 48, 51, 70, 32, 97, 116, 61, 48, 48, 52, 48, 32, 65, 61, 48, 48, 52, 49, 32, 66, 61, 48, 48, 52, 50, 32, 67, 61, 48, 48, 52, 51]⟩ : ByteArray), (⟨#[68, 61, 48, 48, 52, 52, 32, 69, 61, 48, 48, 52, 53, 32, 70, 61, 48, 48, 52, 54, 32, 71, 61, 48, 48, 52, 55, 32, 72, 61, 48, 48, 52, 56, 32, 73, 61, 48, 48, 52, 57]⟩ : ByteArray), (⟨#[74, 61, 48, 48, 52, 65, 32, 75, 61, 48, 48, 52, 66, 32, 76, 61, 48, 48, 52, 67, 32, 77, 61, 48, 48, 52, 68, 32, 78, 61, 48, 48, 52, 69, 32, 79, 61, 48, 48, 52, 70]⟩ : ByteArray), (⟨#[80, 61, 48, 48, 53, 48, 32, 81, 61, 48, 48, 53, 49, 32, 82, 61, 48, 48, 53, 50, 32, 83, 61, 48, 48, 53, 51, 32, 84, 61, 48, 48, 53, 52, 32, 85, 61, 48, 48, 53, 53]⟩ : ByteArray), (⟨#[86, 61, 48, 48, 53, 54, 32, 87, 61, 48, 48, 53, 55, 32, 88, 61, 48, 48, 53, 56, 32, 89, 61, 48, 48, 53, 57, 32, 90, 61, 48, 48, 53, 65, 32, 98, 114, 97, 99, 107, 101, 116, 108, 101, 102, 116, 61, 48, 48, 53, 66]⟩ : ByteArray), (⟨#[98, 97, 99, 107, 115, 108, 97, 115, 104, 61, 48, 48, 53, 67, 32, 98, 114, 97, 99, 107, 101, 116, 114, 105, 103, 104, 116, 61, 48, 48, 53, 68, 32, 97, 115, 99, 105, 105, 99, 105, 114, 99, 117, 109, 61, 48, 48, 53, 69, 32, 117, 110, 100, 101, 114, 115, 99, 111, 114, 101, 61, 48, 48, 53, 70, 32, 103, 114, 97, 118, 101, 61, 48, 48, 54, 48, 32, 97, 61, 48, 48, 54, 49]⟩ : ByteArray), (⟨#[98, 61, 48, 48, 54, 50, 32, 99, 61, 48, 48, 54, 51, 32, 100, 61, 48, 48, 54, 52, 32, 101, 61, 48, 48, 54, 53, 32, 102, 61, 48, 48, 54, 54, 32, 103, 61, 48, 48, 54, 55]⟩ : ByteArray), (⟨#[104, 61, 48, 48, 54, 56, 32, 105, 61, 48, 48, 54, 57, 32, 106, 61, 48, 48, 54, 65, 32, 107, 61, 48, 48, 54, 66, 32, 108, 61, 48, 48, 54, 67, 32, 109, 61, 48, 48, 54, 68]⟩ : ByteArray), (⟨#[110, 61, 48, 48, 54, 69, 32, 111, 61, 48, 48, 54, 70, 32, 112, 61, 48, 48, 55, 48, 32, 113, 61, 48, 48, 55, 49, 32, 114, 61, 48, 48, 55, 50, 32, 115, 61, 48, 48, 55, 51]⟩ : ByteArray), (⟨#[116, 61, 48, 48, 55, 52, 32, 117, 61, 48, 48, 55, 53, 32, 118, 61, 48, 48, 55, 54, 32, 119, 61, 48, 48, 55, 55, 32, 120, 61, 48, 48, 55, 56, 32, 121, 61, 48, 48, 55, 57]⟩ : ByteArray), (⟨#[122, 61, 48, 48, 55, 65, 32, 98, 114, 97, 99, 101, 108, 101, 102, 116, 61, 48, 48, 55, 66, 32, 98, 97, 114, 61, 48, 48, 55, 67, 32, 98, 114, 97, 99, 101, 114, 105, 103, 104, 116, 61, 48, 48, 55, 68, 32, 97, 115, 99, 105, 105, 116, 105, 108, 100, 101, 61, 48, 48, 55, 69, 32, 101, 120, 99, 108, 97, 109, 100, 111, 119, 110, 61, 48, 48, 65, 49]⟩ : ByteArray), (⟨#[99, 101, 110, 116, 61, 48, 48, 65, 50, 32, 115, 116, 101, 114, 108, 105, 110, 103, 61, 48, 48, 65, 51, 32, 99, 117, 114, 114, 101, 110, 99, 121, 61, 48, 48, 65, 52, 32, 121, 101, 110, 61, 48, 48, 65, 53, 32, 98, 114, 111, 107, 101, 110, 98, 97, 114, 61, 48, 48, 65, 54, 32, 115, 101, 99, 116, 105, 111, 110, 61, 48, 48, 65, 55]⟩ : ByteArray), (⟨#[100, 105, 101, 114, 101, 115, 105, 115, 61, 48, 48, 65, 56, 32, 99, 111, 112, 121, 114, 105, 103, 104, 116, 61, 48, 48, 65, 57, 32, 111, 114, 100, 102, 101, 109, 105, 110, 105, 110, 101, 61, 48, 48, 65, 65, 32, 103, 117, 105, 108, 108, 101, 109, 111, 116, 108, 101, 102, 116, 61, 48, 48, 65, 66, 32, 108, 111, 103, 105, 99, 97, 108, 110, 111, 116, 61, 48, 48, 65, 67, 32, 114, 101, 103, 105, 115, 116, 101, 114, 101, 100, 61, 48, 48, 65, 69]⟩ : ByteArray), (⟨#[109, 97, 99, 114, 111, 110, 61, 48, 48, 65, 70, 32, 100, 101, 103, 114, 101, 101, 61, 48, 48, 66, 48, 32, 112, 108, 117, 115, 109, 105, 110, 117, 115, 61, 48, 48, 66, 49, 32, 116, 119, 111, 115, 117, 112, 101, 114, 105, 111, 114, 61, 48, 48, 66, 50, 32, 116, 104, 114, 101, 101, 115, 117, 112, 101, 114, 105, 111, 114, 61, 48, 48, 66, 51, 32, 97, 99, 117, 116, 101, 61, 48, 48, 66, 52]⟩ : ByteArray), (⟨#[109, 117, 61, 48, 48, 66, 53, 32, 112, 97, 114, 97, 103, 114, 97, 112, 104, 61, 48, 48, 66, 54, 32, 112, 101, 114, 105, 111, 100, 99, 101, 110, 116, 101, 114, 101, 100, 61, 48, 48, 66, 55, 32, 99, 101, 100, 105, 108, 108, 97, 61, 48, 48, 66, 56, 32, 111, 110, 101, 115, 117, 112, 101, 114, 105, 111, 114, 61, 48, 48, 66, 57, 32, 111, 114, 100, 109, 97, 115, 99, 117, 108, 105, 110, 101, 61, 48, 48, 66, 65]⟩ : ByteArray), (⟨#[103, 117, 105, 108, 108, 101, 109, 111, 116, 114, 105, 103, 104, 116, 61, 48, 48, 66, 66, 32, 111, 110, 101, 113, 117, 97, 114, 116, 101, 114, 61, 48, 48, 66, 67, 32, 111, 110, 101, 104, 97, 108, 102, 61, 48, 48, 66, 68, 32, 116, 104, 114, 101, 101, 113, 117, 97, 114, 116, 101, 114, 115, 61, 48, 48, 66, 69, 32, 113, 117, 101, 115, 116, 105, 111, 110, 100, 111, 119, 110, 61, 48, 48, 66, 70, 32, 65, 103, 114, 97, 118, 101, 61, 48, 48, 67, 48]⟩ : ByteArray), (⟨#[65, 97, 99, 117, 116, 101, 61, 48, 48, 67, 49, 32, 65, 99, 105, 114, 99, 117, 109, 102, 108, 101, 120, 61, 48, 48, 67, 50, 32, 65, 116, 105, 108, 100, 101, 61, 48, 48, 67, 51, 32, 65, 100, 105, 101, 114, 101, 115, 105, 115, 61, 48, 48, 67, 52, 32, 65, 114, 105, 110, 103, 61, 48, 48, 67, 53, 32, 65, 69, 61, 48, 48, 67, 54]⟩ : ByteArray), (⟨#[67, 99, 101, 100, 105, 108, 108, 97, 61, 48, 48, 67, 55, 32, 69, 103, 114, 97, 118, 101, 61, 48, 48, 67, 56, 32, 69, 97, 99, 117, 116, 101, 61, 48, 48, 67, 57, 32, 69, 99, 105, 114, 99, 117, 109, 102, 108, 101, 120, 61, 48, 48, 67, 65, 32, 69, 100, 105, 101, 114, 101, 115, 105, 115, 61, 48, 48, 67, 66, 32, 73, 103, 114, 97, 118, 101, 61, 48, 48, 67, 67]⟩ : ByteArray), (⟨#[73, 97, 99, 117, 116, 101, 61, 48, 48, 67, 68, 32, 73, 99, 105, 114, 99, 117, 109, 102, 108, 101, 120, 61, 48, 48, 67, 69, 32, 73, 100, 105, 101, 114, 101, 115, 105, 115, 61, 48, 48, 67, 70, 32, 69, 116, 104, 61, 48, 48, 68, 48, 32, 78, 116, 105, 108, 100, 101, 61, 48, 48, 68, 49, 32, 79, 103, 114, 97, 118, 101, 61, 48, 48, 68, 50]⟩ : ByteArray), (⟨#[79, 97, 99, 117, 116, 101, 61, 48, 48, 68, 51, 32, 79, 99, 105, 114, 99, 117, 109, 102, 108, 101, 120, 61, 48, 48, 68, 52, 32, 79, 116, 105, 108, 100, 101, 61, 48, 48, 68, 53, 32, 79, 100, 105, 101, 114, 101, 115, 105, 115, 61, 48, 48, 68, 54, 32, 109, 117, 108, 116, 105, 112, 108, 121, 61, 48, 48, 68, 55, 32, 79, 115, 108, 97, 115, 104, 61, 48, 48, 68, 56]⟩ : ByteArray), (⟨#[85, 103, 114, 97, 118, 101, 61, 48, 48, 68, 57, 32, 85, 97, 99, 117, 116, 101, 61, 48, 48, 68, 65, 32, 85, 99, 105, 114, 99, 117, 109, 102, 108, 101, 120, 61, 48, 48, 68, 66, 32, 85, 100, 105, 101, 114, 101, 115, 105, 115, 61, 48, 48, 68, 67, 32, 89, 97, 99, 117, 116, 101, 61, 48, 48, 68, 68, 32, 84, 104, 111, 114, 110, 61, 48, 48, 68, 69]⟩ : ByteArray), (⟨#[103, 101, 114, 109, 97, 110, 100, 98, 108, 115, 61, 48, 48, 68, 70, 32, 97, 103, 114, 97, 118, 101, 61, 48, 48, 69, 48, 32, 97, 97, 99, 117, 116, 101, 61, 48, 48, 69, 49, 32, 97, 99, 105, 114, 99, 117, 109, 102, 108, 101, 120, 61, 48, 48, 69, 50, 32, 97, 116, 105, 108, 100, 101, 61, 48, 48, 69, 51, 32, 97, 100, 105, 101, 114, 101, 115, 105, 115, 61, 48, 48, 69, 52]⟩ : ByteArray), (⟨#[97, 114, 105, 110, 103, 61, 48, 48, 69, 53, 32, 97, 101, 61, 48, 48, 69, 54, 32, 99, 99, 101, 100, 105, 108, 108, 97, 61, 48, 48, 69, 55, 32, 101, 103, 114, 97, 118, 101, 61, 48, 48, 69, 56, 32, 101, 97, 99, 117, 116, 101, 61, 48, 48, 69, 57, 32, 101, 99, 105, 114, 99, 117, 109, 102, 108, 101, 120, 61, 48, 48, 69, 65]⟩ : ByteArray), (⟨#[101, 100, 105, 101, 114, 101, 115, 105, 115, 61, 48, 48, 69, 66, 32, 105, 103, 114, 97, 118, 101, 61, 48, 48, 69, 67, 32, 105, 97, 99, 117, 116, 101, 61, 48, 48, 69, 68, 32, 105, 99, 105, 114, 99, 117, 109, 102, 108, 101, 120, 61, 48, 48, 69, 69, 32, 105, 100, 105, 101, 114, 101, 115, 105, 115, 61, 48, 48, 69, 70, 32, 101, 116, 104, 61, 48, 48, 70, 48]⟩ : ByteArray), (⟨#[110, 116, 105, 108, 100, 101, 61, 48, 48, 70, 49, 32, 111, 103, 114, 97, 118, 101, 61, 48, 48, 70, 50, 32, 111, 97, 99, 117, 116, 101, 61, 48, 48, 70, 51, 32, 111, 99, 105, 114, 99, 117, 109, 102, 108, 101, 120, 61, 48, 48, 70, 52, 32, 111, 116, 105, 108, 100, 101, 61, 48, 48, 70, 53, 32, 111, 100, 105, 101, 114, 101, 115, 105, 115, 61, 48, 48, 70, 54]⟩ : ByteArray)] : List ByteArray))
set_option maxHeartbeats 8000000 in
set_option maxRecDepth 100000 in
theorem glyph_part1.calls  (r : List ByteArray) (w : World) (h : glyph_part1.f  = some r) :
    Calls Tryd.prog 58 #[] w fun e w' => ∃ v0_ : Value, e = .returned (v0_) ∧ Kd.R Kd.string 9 w' w.heap.size (fun _ => True) v0_ r ∧ Below w.heap.size w w' := by
  have HB := Aside0.mk (Below.refl w.heap.size w)
  have H : (some (([(⟨#[115, 112, 97, 99, 101, 61, 48, 48, 50, 48, 32, 101, 120, 99, 108, 97, 109, 61, 48, 48, 50, 49, 32, 113, 117, 111, 116, 101, 100, 98, 108, 61, 48, 48, 50, 50, 32, 110, 117, 109, 98, 101, 114, 115, 105, 103, 110, 61, 48, 48, 50, 51, 32, 100, 111, 108, 108, 97, 114, 61, 48, 48, 50, 52, 32, 112, 101, 114, 99, 101, 110, 116, 61, 48, 48, 50, 53]⟩ : ByteArray), (⟨#[97, 109, 112, 101, 114, 115, 97, 110, 100, 61, 48, 48, 50, 54, 32, 113, 117, 111, 116, 101, 115, 105, 110, 103, 108, 101, 61, 48, 48, 50, 55, 32, 112, 97, 114, 101, 110, 108, 101, 102, 116, 61, 48, 48, 50, 56, 32, 112, 97, 114, 101, 110, 114, 105, 103, 104, 116, 61, 48, 48, 50, 57, 32, 97, 115, 116, 101, 114, 105, 115, 107, 61, 48, 48, 50, 65, 32, 112, 108, 117, 115, 61, 48, 48, 50, 66]⟩ : ByteArray), (⟨#[99, 111, 109, 109, 97, 61, 48, 48, 50, 67, 32, 104, 121, 112, 104, 101, 110, 61, 48, 48, 50, 68, 32, 112, 101, 114, 105, 111, 100, 61, 48, 48, 50, 69, 32, 115, 108, 97, 115, 104, 61, 48, 48, 50, 70, 32, 122, 101, 114, 111, 61, 48, 48, 51, 48, 32, 111, 110, 101, 61, 48, 48, 51, 49]⟩ : ByteArray), (⟨#[116, 119, 111, 61, 48, 48, 51, 50, 32, 116, 104, 114, 101, 101, 61, 48, 48, 51, 51, 32, 102, 111, 117, 114, 61, 48, 48, 51, 52, 32, 102, 105, 118, 101, 61, 48, 48, 51, 53, 32, 115, 105, 120, 61, 48, 48, 51, 54, 32, 115, 101, 118, 101, 110, 61, 48, 48, 51, 55]⟩ : ByteArray), (⟨#[101, 105, 103, 104, 116, 61, 48, 48, 51, 56, 32, 110, 105, 110, 101, 61, 48, 48, 51, 57, 32, 99, 111, 108, 111, 110, 61, 48, 48, 51, 65, 32, 115, 101, 109, 105, 99, 111, 108, 111, 110, 61, 48, 48, 51, 66, 32, 108, 101, 115, 115, 61, 48, 48, 51, 67, 32, 101, 113, 117, 97, 108, 61, 48, 48, 51, 68]⟩ : ByteArray), (⟨#[103, 114, 101, 97, 116, 101, 114, 61, 48, 48, 51, 69, 32, 113, 117, 101, 115, 116, 105, 111, 110, 61, 48, 48, 51, 70, 32, 97, 116, 61, 48, 48, 52, 48, 32, 65, 61, 48, 48, 52, 49, 32, 66, 61, 48, 48, 52, 50, 32, 67, 61, 48, 48, 52, 51]⟩ : ByteArray), (⟨#[68, 61, 48, 48, 52, 52, 32, 69, 61, 48, 48, 52, 53, 32, 70, 61, 48, 48, 52, 54, 32, 71, 61, 48, 48, 52, 55, 32, 72, 61, 48, 48, 52, 56, 32, 73, 61, 48, 48, 52, 57]⟩ : ByteArray), (⟨#[74, 61, 48, 48, 52, 65, 32, 75, 61, 48, 48, 52, 66, 32, 76, 61, 48, 48, 52, 67, 32, 77, 61, 48, 48, 52, 68, 32, 78, 61, 48, 48, 52, 69, 32, 79, 61, 48, 48, 52, 70]⟩ : ByteArray), (⟨#[80, 61, 48, 48, 53, 48, 32, 81, 61, 48, 48, 53, 49, 32, 82, 61, 48, 48, 53, 50, 32, 83, 61, 48, 48, 53, 51, 32, 84, 61, 48, 48, 53, 52, 32, 85, 61, 48, 48, 53, 53]⟩ : ByteArray), (⟨#[86, 61, 48, 48, 53, 54, 32, 87, 61, 48, 48, 53, 55, 32, 88, 61, 48, 48, 53, 56, 32, 89, 61, 48, 48, 53, 57, 32, 90, 61, 48, 48, 53, 65, 32, 98, 114, 97, 99, 107, 101, 116, 108, 101, 102, 116, 61, 48, 48, 53, 66]⟩ : ByteArray), (⟨#[98, 97, 99, 107, 115, 108, 97, 115, 104, 61, 48, 48, 53, 67, 32, 98, 114, 97, 99, 107, 101, 116, 114, 105, 103, 104, 116, 61, 48, 48, 53, 68, 32, 97, 115, 99, 105, 105, 99, 105, 114, 99, 117, 109, 61, 48, 48, 53, 69, 32, 117, 110, 100, 101, 114, 115, 99, 111, 114, 101, 61, 48, 48, 53, 70, 32, 103, 114, 97, 118, 101, 61, 48, 48, 54, 48, 32, 97, 61, 48, 48, 54, 49]⟩ : ByteArray), (⟨#[98, 61, 48, 48, 54, 50, 32, 99, 61, 48, 48, 54, 51, 32, 100, 61, 48, 48, 54, 52, 32, 101, 61, 48, 48, 54, 53, 32, 102, 61, 48, 48, 54, 54, 32, 103, 61, 48, 48, 54, 55]⟩ : ByteArray), (⟨#[104, 61, 48, 48, 54, 56, 32, 105, 61, 48, 48, 54, 57, 32, 106, 61, 48, 48, 54, 65, 32, 107, 61, 48, 48, 54, 66, 32, 108, 61, 48, 48, 54, 67, 32, 109, 61, 48, 48, 54, 68]⟩ : ByteArray), (⟨#[110, 61, 48, 48, 54, 69, 32, 111, 61, 48, 48, 54, 70, 32, 112, 61, 48, 48, 55, 48, 32, 113, 61, 48, 48, 55, 49, 32, 114, 61, 48, 48, 55, 50, 32, 115, 61, 48, 48, 55, 51]⟩ : ByteArray), (⟨#[116, 61, 48, 48, 55, 52, 32, 117, 61, 48, 48, 55, 53, 32, 118, 61, 48, 48, 55, 54, 32, 119, 61, 48, 48, 55, 55, 32, 120, 61, 48, 48, 55, 56, 32, 121, 61, 48, 48, 55, 57]⟩ : ByteArray), (⟨#[122, 61, 48, 48, 55, 65, 32, 98, 114, 97, 99, 101, 108, 101, 102, 116, 61, 48, 48, 55, 66, 32, 98, 97, 114, 61, 48, 48, 55, 67, 32, 98, 114, 97, 99, 101, 114, 105, 103, 104, 116, 61, 48, 48, 55, 68, 32, 97, 115, 99, 105, 105, 116, 105, 108, 100, 101, 61, 48, 48, 55, 69, 32, 101, 120, 99, 108, 97, 109, 100, 111, 119, 110, 61, 48, 48, 65, 49]⟩ : ByteArray), (⟨#[99, 101, 110, 116, 61, 48, 48, 65, 50, 32, 115, 116, 101, 114, 108, 105, 110, 103, 61, 48, 48, 65, 51, 32, 99, 117, 114, 114, 101, 110, 99, 121, 61, 48, 48, 65, 52, 32, 121, 101, 110, 61, 48, 48, 65, 53, 32, 98, 114, 111, 107, 101, 110, 98, 97, 114, 61, 48, 48, 65, 54, 32, 115, 101, 99, 116, 105, 111, 110, 61, 48, 48, 65, 55]⟩ : ByteArray), (⟨#[100, 105, 101, 114, 101, 115, 105, 115, 61, 48, 48, 65, 56, 32, 99, 111, 112, 121, 114, 105, 103, 104, 116, 61, 48, 48, 65, 57, 32, 111, 114, 100, 102, 101, 109, 105, 110, 105, 110, 101, 61, 48, 48, 65, 65, 32, 103, 117, 105, 108, 108, 101, 109, 111, 116, 108, 101, 102, 116, 61, 48, 48, 65, 66, 32, 108, 111, 103, 105, 99, 97, 108, 110, 111, 116, 61, 48, 48, 65, 67, 32, 114, 101, 103, 105, 115, 116, 101, 114, 101, 100, 61, 48, 48, 65, 69]⟩ : ByteArray), (⟨#[109, 97, 99, 114, 111, 110, 61, 48, 48, 65, 70, 32, 100, 101, 103, 114, 101, 101, 61, 48, 48, 66, 48, 32, 112, 108, 117, 115, 109, 105, 110, 117, 115, 61, 48, 48, 66, 49, 32, 116, 119, 111, 115, 117, 112, 101, 114, 105, 111, 114, 61, 48, 48, 66, 50, 32, 116, 104, 114, 101, 101, 115, 117, 112, 101, 114, 105, 111, 114, 61, 48, 48, 66, 51, 32, 97, 99, 117, 116, 101, 61, 48, 48, 66, 52]⟩ : ByteArray), (⟨#[109, 117, 61, 48, 48, 66, 53, 32, 112, 97, 114, 97, 103, 114, 97, 112, 104, 61, 48, 48, 66, 54, 32, 112, 101, 114, 105, 111, 100, 99, 101, 110, 116, 101, 114, 101, 100, 61, 48, 48, 66, 55, 32, 99, 101, 100, 105, 108, 108, 97, 61, 48, 48, 66, 56, 32, 111, 110, 101, 115, 117, 112, 101, 114, 105, 111, 114, 61, 48, 48, 66, 57, 32, 111, 114, 100, 109, 97, 115, 99, 117, 108, 105, 110, 101, 61, 48, 48, 66, 65]⟩ : ByteArray), (⟨#[103, 117, 105, 108, 108, 101, 109, 111, 116, 114, 105, 103, 104, 116, 61, 48, 48, 66, 66, 32, 111, 110, 101, 113, 117, 97, 114, 116, 101, 114, 61, 48, 48, 66, 67, 32, 111, 110, 101, 104, 97, 108, 102, 61, 48, 48, 66, 68, 32, 116, 104, 114, 101, 101, 113, 117, 97, 114, 116, 101, 114, 115, 61, 48, 48, 66, 69, 32, 113, 117, 101, 115, 116, 105, 111, 110, 100, 111, 119, 110, 61, 48, 48, 66, 70, 32, 65, 103, 114, 97, 118, 101, 61, 48, 48, 67, 48]⟩ : ByteArray), (⟨#[65, 97, 99, 117, 116, 101, 61, 48, 48, 67, 49, 32, 65, 99, 105, 114, 99, 117, 109, 102, 108, 101, 120, 61, 48, 48, 67, 50, 32, 65, 116, 105, 108, 100, 101, 61, 48, 48, 67, 51, 32, 65, 100, 105, 101, 114, 101, 115, 105, 115, 61, 48, 48, 67, 52, 32, 65, 114, 105, 110, 103, 61, 48, 48, 67, 53, 32, 65, 69, 61, 48, 48, 67, 54]⟩ : ByteArray), (⟨#[67, 99, 101, 100, 105, 108, 108, 97, 61, 48, 48, 67, 55, 32, 69, 103, 114, 97, 118, 101, 61, 48, 48, 67, 56, 32, 69, 97, 99, 117, 116, 101, 61, 48, 48, 67, 57, 32, 69, 99, 105, 114, 99, 117, 109, 102, 108, 101, 120, 61, 48, 48, 67, 65, 32, 69, 100, 105, 101, 114, 101, 115, 105, 115, 61, 48, 48, 67, 66, 32, 73, 103, 114, 97, 118, 101, 61, 48, 48, 67, 67]⟩ : ByteArray), (⟨#[73, 97, 99, 117, 116, 101, 61, 48, 48, 67, 68, 32, 73, 99, 105, 114, 99, 117, 109, 102, 108, 101, 120, 61, 48, 48, 67, 69, 32, 73, 100, 105, 101, 114, 101, 115, 105, 115, 61, 48, 48, 67, 70, 32, 69, 116, 104, 61, 48, 48, 68, 48, 32, 78, 116, 105, 108, 100, 101, 61, 48, 48, 68, 49, 32, 79, 103, 114, 97, 118, 101, 61, 48, 48, 68, 50]⟩ : ByteArray), (⟨#[79, 97, 99, 117, 116, 101, 61, 48, 48, 68, 51, 32, 79, 99, 105, 114, 99, 117, 109, 102, 108, 101, 120, 61, 48, 48, 68, 52, 32, 79, 116, 105, 108, 100, 101, 61, 48, 48, 68, 53, 32, 79, 100, 105, 101, 114, 101, 115, 105, 115, 61, 48, 48, 68, 54, 32, 109, 117, 108, 116, 105, 112, 108, 121, 61, 48, 48, 68, 55, 32, 79, 115, 108, 97, 115, 104, 61, 48, 48, 68, 56]⟩ : ByteArray), (⟨#[85, 103, 114, 97, 118, 101, 61, 48, 48, 68, 57, 32, 85, 97, 99, 117, 116, 101, 61, 48, 48, 68, 65, 32, 85, 99, 105, 114, 99, 117, 109, 102, 108, 101, 120, 61, 48, 48, 68, 66, 32, 85, 100, 105, 101, 114, 101, 115, 105, 115, 61, 48, 48, 68, 67, 32, 89, 97, 99, 117, 116, 101, 61, 48, 48, 68, 68, 32, 84, 104, 111, 114, 110, 61, 48, 48, 68, 69]⟩ : ByteArray), (⟨#[103, 101, 114, 109, 97, 110, 100, 98, 108, 115, 61, 48, 48, 68, 70, 32, 97, 103, 114, 97, 118, 101, 61, 48, 48, 69, 48, 32, 97, 97, 99, 117, 116, 101, 61, 48, 48, 69, 49, 32, 97, 99, 105, 114, 99, 117, 109, 102, 108, 101, 120, 61, 48, 48, 69, 50, 32, 97, 116, 105, 108, 100, 101, 61, 48, 48, 69, 51, 32, 97, 100, 105, 101, 114, 101, 115, 105, 115, 61, 48, 48, 69, 52]⟩ : ByteArray), (⟨#[97, 114, 105, 110, 103, 61, 48, 48, 69, 53, 32, 97, 101, 61, 48, 48, 69, 54, 32, 99, 99, 101, 100, 105, 108, 108, 97, 61, 48, 48, 69, 55, 32, 101, 103, 114, 97, 118, 101, 61, 48, 48, 69, 56, 32, 101, 97, 99, 117, 116, 101, 61, 48, 48, 69, 57, 32, 101, 99, 105, 114, 99, 117, 109, 102, 108, 101, 120, 61, 48, 48, 69, 65]⟩ : ByteArray), (⟨#[101, 100, 105, 101, 114, 101, 115, 105, 115, 61, 48, 48, 69, 66, 32, 105, 103, 114, 97, 118, 101, 61, 48, 48, 69, 67, 32, 105, 97, 99, 117, 116, 101, 61, 48, 48, 69, 68, 32, 105, 99, 105, 114, 99, 117, 109, 102, 108, 101, 120, 61, 48, 48, 69, 69, 32, 105, 100, 105, 101, 114, 101, 115, 105, 115, 61, 48, 48, 69, 70, 32, 101, 116, 104, 61, 48, 48, 70, 48]⟩ : ByteArray), (⟨#[110, 116, 105, 108, 100, 101, 61, 48, 48, 70, 49, 32, 111, 103, 114, 97, 118, 101, 61, 48, 48, 70, 50, 32, 111, 97, 99, 117, 116, 101, 61, 48, 48, 70, 51, 32, 111, 99, 105, 114, 99, 117, 109, 102, 108, 101, 120, 61, 48, 48, 70, 52, 32, 111, 116, 105, 108, 100, 101, 61, 48, 48, 70, 53, 32, 111, 100, 105, 101, 114, 101, 115, 105, 115, 61, 48, 48, 70, 54]⟩ : ByteArray)] : List ByteArray))) = some r := h
  clear h
  obtain ⟨y109, hy109⟩ : ∃ y_ : List ByteArray, y_ = (([(⟨#[115, 112, 97, 99, 101, 61, 48, 48, 50, 48, 32, 101, 120, 99, 108, 97, 109, 61, 48, 48, 50, 49, 32, 113, 117, 111, 116, 101, 100, 98, 108, 61, 48, 48, 50, 50, 32, 110, 117, 109, 98, 101, 114, 115, 105, 103, 110, 61, 48, 48, 50, 51, 32, 100, 111, 108, 108, 97, 114, 61, 48, 48, 50, 52, 32, 112, 101, 114, 99, 101, 110, 116, 61, 48, 48, 50, 53]⟩ : ByteArray), (⟨#[97, 109, 112, 101, 114, 115, 97, 110, 100, 61, 48, 48, 50, 54, 32, 113, 117, 111, 116, 101, 115, 105, 110, 103, 108, 101, 61, 48, 48, 50, 55, 32, 112, 97, 114, 101, 110, 108, 101, 102, 116, 61, 48, 48, 50, 56, 32, 112, 97, 114, 101, 110, 114, 105, 103, 104, 116, 61, 48, 48, 50, 57, 32, 97, 115, 116, 101, 114, 105, 115, 107, 61, 48, 48, 50, 65, 32, 112, 108, 117, 115, 61, 48, 48, 50, 66]⟩ : ByteArray), (⟨#[99, 111, 109, 109, 97, 61, 48, 48, 50, 67, 32, 104, 121, 112, 104, 101, 110, 61, 48, 48, 50, 68, 32, 112, 101, 114, 105, 111, 100, 61, 48, 48, 50, 69, 32, 115, 108, 97, 115, 104, 61, 48, 48, 50, 70, 32, 122, 101, 114, 111, 61, 48, 48, 51, 48, 32, 111, 110, 101, 61, 48, 48, 51, 49]⟩ : ByteArray), (⟨#[116, 119, 111, 61, 48, 48, 51, 50, 32, 116, 104, 114, 101, 101, 61, 48, 48, 51, 51, 32, 102, 111, 117, 114, 61, 48, 48, 51, 52, 32, 102, 105, 118, 101, 61, 48, 48, 51, 53, 32, 115, 105, 120, 61, 48, 48, 51, 54, 32, 115, 101, 118, 101, 110, 61, 48, 48, 51, 55]⟩ : ByteArray), (⟨#[101, 105, 103, 104, 116, 61, 48, 48, 51, 56, 32, 110, 105, 110, 101, 61, 48, 48, 51, 57, 32, 99, 111, 108, 111, 110, 61, 48, 48, 51, 65, 32, 115, 101, 109, 105, 99, 111, 108, 111, 110, 61, 48, 48, 51, 66, 32, 108, 101, 115, 115, 61, 48, 48, 51, 67, 32, 101, 113, 117, 97, 108, 61, 48, 48, 51, 68]⟩ : ByteArray), (⟨#[103, 114, 101, 97, 116, 101, 114, 61, 48, 48, 51, 69, 32, 113, 117, 101, 115, 116, 105, 111, 110, 61, 48, 48, 51, 70, 32, 97, 116, 61, 48, 48, 52, 48, 32, 65, 61, 48, 48, 52, 49, 32, 66, 61, 48, 48, 52, 50, 32, 67, 61, 48, 48, 52, 51]⟩ : ByteArray), (⟨#[68, 61, 48, 48, 52, 52, 32, 69, 61, 48, 48, 52, 53, 32, 70, 61, 48, 48, 52, 54, 32, 71, 61, 48, 48, 52, 55, 32, 72, 61, 48, 48, 52, 56, 32, 73, 61, 48, 48, 52, 57]⟩ : ByteArray), (⟨#[74, 61, 48, 48, 52, 65, 32, 75, 61, 48, 48, 52, 66, 32, 76, 61, 48, 48, 52, 67, 32, 77, 61, 48, 48, 52, 68, 32, 78, 61, 48, 48, 52, 69, 32, 79, 61, 48, 48, 52, 70]⟩ : ByteArray), (⟨#[80, 61, 48, 48, 53, 48, 32, 81, 61, 48, 48, 53, 49, 32, 82, 61, 48, 48, 53, 50, 32, 83, 61, 48, 48, 53, 51, 32, 84, 61, 48, 48, 53, 52, 32, 85, 61, 48, 48, 53, 53]⟩ : ByteArray), (⟨#[86, 61, 48, 48, 53, 54, 32, 87, 61, 48, 48, 53, 55, 32, 88, 61, 48, 48, 53, 56, 32, 89, 61, 48, 48, 53, 57, 32, 90, 61, 48, 48, 53, 65, 32, 98, 114, 97, 99, 107, 101, 116, 108, 101, 102, 116, 61, 48, 48, 53, 66]⟩ : ByteArray), (⟨#[98, 97, 99, 107, 115, 108, 97, 115, 104, 61, 48, 48, 53, 67, 32, 98, 114, 97, 99, 107, 101, 116, 114, 105, 103, 104, 116, 61, 48, 48, 53, 68, 32, 97, 115, 99, 105, 105, 99, 105, 114, 99, 117, 109, 61, 48, 48, 53, 69, 32, 117, 110, 100, 101, 114, 115, 99, 111, 114, 101, 61, 48, 48, 53, 70, 32, 103, 114, 97, 118, 101, 61, 48, 48, 54, 48, 32, 97, 61, 48, 48, 54, 49]⟩ : ByteArray), (⟨#[98, 61, 48, 48, 54, 50, 32, 99, 61, 48, 48, 54, 51, 32, 100, 61, 48, 48, 54, 52, 32, 101, 61, 48, 48, 54, 53, 32, 102, 61, 48, 48, 54, 54, 32, 103, 61, 48, 48, 54, 55]⟩ : ByteArray), (⟨#[104, 61, 48, 48, 54, 56, 32, 105, 61, 48, 48, 54, 57, 32, 106, 61, 48, 48, 54, 65, 32, 107, 61, 48, 48, 54, 66, 32, 108, 61, 48, 48, 54, 67, 32, 109, 61, 48, 48, 54, 68]⟩ : ByteArray), (⟨#[110, 61, 48, 48, 54, 69, 32, 111, 61, 48, 48, 54, 70, 32, 112, 61, 48, 48, 55, 48, 32, 113, 61, 48, 48, 55, 49, 32, 114, 61, 48, 48, 55, 50, 32, 115, 61, 48, 48, 55, 51]⟩ : ByteArray), (⟨#[116, 61, 48, 48, 55, 52, 32, 117, 61, 48, 48, 55, 53, 32, 118, 61, 48, 48, 55, 54, 32, 119, 61, 48, 48, 55, 55, 32, 120, 61, 48, 48, 55, 56, 32, 121, 61, 48, 48, 55, 57]⟩ : ByteArray), (⟨#[122, 61, 48, 48, 55, 65, 32, 98, 114, 97, 99, 101, 108, 101, 102, 116, 61, 48, 48, 55, 66, 32, 98, 97, 114, 61, 48, 48, 55, 67, 32, 98, 114, 97, 99, 101, 114, 105, 103, 104, 116, 61, 48, 48, 55, 68, 32, 97, 115, 99, 105, 105, 116, 105, 108, 100, 101, 61, 48, 48, 55, 69, 32, 101, 120, 99, 108, 97, 109, 100, 111, 119, 110, 61, 48, 48, 65, 49]⟩ : ByteArray), (⟨#[99, 101, 110, 116, 61, 48, 48, 65, 50, 32, 115, 116, 101, 114, 108, 105, 110, 103, 61, 48, 48, 65, 51, 32, 99, 117, 114, 114, 101, 110, 99, 121, 61, 48, 48, 65, 52, 32, 121, 101, 110, 61, 48, 48, 65, 53, 32, 98, 114, 111, 107, 101, 110, 98, 97, 114, 61, 48, 48, 65, 54, 32, 115, 101, 99, 116, 105, 111, 110, 61, 48, 48, 65, 55]⟩ : ByteArray), (⟨#[100, 105, 101, 114, 101, 115, 105, 115, 61, 48, 48, 65, 56, 32, 99, 111, 112, 121, 114, 105, 103, 104, 116, 61, 48, 48, 65, 57, 32, 111, 114, 100, 102, 101, 109, 105, 110, 105, 110, 101, 61, 48, 48, 65, 65, 32, 103, 117, 105, 108, 108, 101, 109, 111, 116, 108, 101, 102, 116, 61, 48, 48, 65, 66, 32, 108, 111, 103, 105, 99, 97, 108, 110, 111, 116, 61, 48, 48, 65, 67, 32, 114, 101, 103, 105, 115, 116, 101, 114, 101, 100, 61, 48, 48, 65, 69]⟩ : ByteArray), (⟨#[109, 97, 99, 114, 111, 110, 61, 48, 48, 65, 70, 32, 100, 101, 103, 114, 101, 101, 61, 48, 48, 66, 48, 32, 112, 108, 117, 115, 109, 105, 110, 117, 115, 61, 48, 48, 66, 49, 32, 116, 119, 111, 115, 117, 112, 101, 114, 105, 111, 114, 61, 48, 48, 66, 50, 32, 116, 104, 114, 101, 101, 115, 117, 112, 101, 114, 105, 111, 114, 61, 48, 48, 66, 51, 32, 97, 99, 117, 116, 101, 61, 48, 48, 66, 52]⟩ : ByteArray), (⟨#[109, 117, 61, 48, 48, 66, 53, 32, 112, 97, 114, 97, 103, 114, 97, 112, 104, 61, 48, 48, 66, 54, 32, 112, 101, 114, 105, 111, 100, 99, 101, 110, 116, 101, 114, 101, 100, 61, 48, 48, 66, 55, 32, 99, 101, 100, 105, 108, 108, 97, 61, 48, 48, 66, 56, 32, 111, 110, 101, 115, 117, 112, 101, 114, 105, 111, 114, 61, 48, 48, 66, 57, 32, 111, 114, 100, 109, 97, 115, 99, 117, 108, 105, 110, 101, 61, 48, 48, 66, 65]⟩ : ByteArray), (⟨#[103, 117, 105, 108, 108, 101, 109, 111, 116, 114, 105, 103, 104, 116, 61, 48, 48, 66, 66, 32, 111, 110, 101, 113, 117, 97, 114, 116, 101, 114, 61, 48, 48, 66, 67, 32, 111, 110, 101, 104, 97, 108, 102, 61, 48, 48, 66, 68, 32, 116, 104, 114, 101, 101, 113, 117, 97, 114, 116, 101, 114, 115, 61, 48, 48, 66, 69, 32, 113, 117, 101, 115, 116, 105, 111, 110, 100, 111, 119, 110, 61, 48, 48, 66, 70, 32, 65, 103, 114, 97, 118, 101, 61, 48, 48, 67, 48]⟩ : ByteArray), (⟨#[65, 97, 99, 117, 116, 101, 61, 48, 48, 67, 49, 32, 65, 99, 105, 114, 99, 117, 109, 102, 108, 101, 120, 61, 48, 48, 67, 50, 32, 65, 116, 105, 108, 100, 101, 61, 48, 48, 67, 51, 32, 65, 100, 105, 101, 114, 101, 115, 105, 115, 61, 48, 48, 67, 52, 32, 65, 114, 105, 110, 103, 61, 48, 48, 67, 53, 32, 65, 69, 61, 48, 48, 67, 54]⟩ : ByteArray), (⟨#[67, 99, 101, 100, 105, 108, 108, 97, 61, 48, 48, 67, 55, 32, 69, 103, 114, 97, 118, 101, 61, 48, 48, 67, 56, 32, 69, 97, 99, 117, 116, 101, 61, 48, 48, 67, 57, 32, 69, 99, 105, 114, 99, 117, 109, 102, 108, 101, 120, 61, 48, 48, 67, 65, 32, 69, 100, 105, 101, 114, 101, 115, 105, 115, 61, 48, 48, 67, 66, 32, 73, 103, 114, 97, 118, 101, 61, 48, 48, 67, 67]⟩ : ByteArray), (⟨#[73, 97, 99, 117, 116, 101, 61, 48, 48, 67, 68, 32, 73, 99, 105, 114, 99, 117, 109, 102, 108, 101, 120, 61, 48, 48, 67, 69, 32, 73, 100, 105, 101, 114, 101, 115, 105, 115, 61, 48, 48, 67, 70, 32, 69, 116, 104, 61, 48, 48, 68, 48, 32, 78, 116, 105, 108, 100, 101, 61, 48, 48, 68, 49, 32, 79, 103, 114, 97, 118, 101, 61, 48, 48, 68, 50]⟩ : ByteArray), (⟨#[79, 97, 99, 117, 116, 101, 61, 48, 48, 68, 51, 32, 79, 99, 105, 114, 99, 117, 109, 102, 108, 101, 120, 61, 48, 48, 68, 52, 32, 79, 116, 105, 108, 100, 101, 61, 48, 48, 68, 53, 32, 79, 100, 105, 101, 114, 101, 115, 105, 115, 61, 48, 48, 68, 54, 32, 109, 117, 108, 116, 105, 112, 108, 121, 61, 48, 48, 68, 55, 32, 79, 115, 108, 97, 115, 104, 61, 48, 48, 68, 56]⟩ : ByteArray), (⟨#[85, 103, 114, 97, 118, 101, 61, 48, 48, 68, 57, 32, 85, 97, 99, 117, 116, 101, 61, 48, 48, 68, 65, 32, 85, 99, 105, 114, 99, 117, 109, 102, 108, 101, 120, 61, 48, 48, 68, 66, 32, 85, 100, 105, 101, 114, 101, 115, 105, 115, 61, 48, 48, 68, 67, 32, 89, 97, 99, 117, 116, 101, 61, 48, 48, 68, 68, 32, 84, 104, 111, 114, 110, 61, 48, 48, 68, 69]⟩ : ByteArray), (⟨#[103, 101, 114, 109, 97, 110, 100, 98, 108, 115, 61, 48, 48, 68, 70, 32, 97, 103, 114, 97, 118, 101, 61, 48, 48, 69, 48, 32, 97, 97, 99, 117, 116, 101, 61, 48, 48, 69, 49, 32, 97, 99, 105, 114, 99, 117, 109, 102, 108, 101, 120, 61, 48, 48, 69, 50, 32, 97, 116, 105, 108, 100, 101, 61, 48, 48, 69, 51, 32, 97, 100, 105, 101, 114, 101, 115, 105, 115, 61, 48, 48, 69, 52]⟩ : ByteArray), (⟨#[97, 114, 105, 110, 103, 61, 48, 48, 69, 53, 32, 97, 101, 61, 48, 48, 69, 54, 32, 99, 99, 101, 100, 105, 108, 108, 97, 61, 48, 48, 69, 55, 32, 101, 103, 114, 97, 118, 101, 61, 48, 48, 69, 56, 32, 101, 97, 99, 117, 116, 101, 61, 48, 48, 69, 57, 32, 101, 99, 105, 114, 99, 117, 109, 102, 108, 101, 120, 61, 48, 48, 69, 65]⟩ : ByteArray), (⟨#[101, 100, 105, 101, 114, 101, 115, 105, 115, 61, 48, 48, 69, 66, 32, 105, 103, 114, 97, 118, 101, 61, 48, 48, 69, 67, 32, 105, 97, 99, 117, 116, 101, 61, 48, 48, 69, 68, 32, 105, 99, 105, 114, 99, 117, 109, 102, 108, 101, 120, 61, 48, 48, 69, 69, 32, 105, 100, 105, 101, 114, 101, 115, 105, 115, 61, 48, 48, 69, 70, 32, 101, 116, 104, 61, 48, 48, 70, 48]⟩ : ByteArray), (⟨#[110, 116, 105, 108, 100, 101, 61, 48, 48, 70, 49, 32, 111, 103, 114, 97, 118, 101, 61, 48, 48, 70, 50, 32, 111, 97, 99, 117, 116, 101, 61, 48, 48, 70, 51, 32, 111, 99, 105, 114, 99, 117, 109, 102, 108, 101, 120, 61, 48, 48, 70, 52, 32, 111, 116, 105, 108, 100, 101, 61, 48, 48, 70, 53, 32, 111, 100, 105, 101, 114, 101, 115, 105, 115, 61, 48, 48, 70, 54]⟩ : ByteArray)] : List ByteArray)) := ⟨_, rfl⟩
  replace H : (some y109) = some r := by first | (rw [hy109]; with_reducible exact H) | (have H2_ := (Option.bind_some _ _).symm.trans H; rw [hy109]; with_reducible exact H2_) | (have H2_ := (Option.bind_some _ _).symm.trans H; with_reducible exact H2_) | with_reducible exact H | (rw [hy109]; exact H) | exact H
  have Ny109 := Aside0.mk hy109
  clear hy109
  obtain rfl := Option.some.inj H
  go_enter Tryd.func58, Tryd.ntmps58
  go_wp2_with (first | ((with_reducible refine gate_dst (N := 1) rfl ?_); refine Kd.R_lit Kd.string _ 9 ?hg (N := 1) ?hd (xs := ([(⟨#[115, 112, 97, 99, 101, 61, 48, 48, 50, 48, 32, 101, 120, 99, 108, 97, 109, 61, 48, 48, 50, 49, 32, 113, 117, 111, 116, 101, 100, 98, 108, 61, 48, 48, 50, 50, 32, 110, 117, 109, 98, 101, 114, 115, 105, 103, 110, 61, 48, 48, 50, 51, 32, 100, 111, 108, 108, 97, 114, 61, 48, 48, 50, 52, 32, 112, 101, 114, 99, 101, 110, 116, 61, 48, 48, 50, 53]⟩ : ByteArray), (⟨#[97, 109, 112, 101, 114, 115, 97, 110, 100, 61, 48, 48, 50, 54, 32, 113, 117, 111, 116, 101, 115, 105, 110, 103, 108, 101, 61, 48, 48, 50, 55, 32, 112, 97, 114, 101, 110, 108, 101, 102, 116, 61, 48, 48, 50, 56, 32, 112, 97, 114, 101, 110, 114, 105, 103, 104, 116, 61, 48, 48, 50, 57, 32, 97, 115, 116, 101, 114, 105, 115, 107, 61, 48, 48, 50, 65, 32, 112, 108, 117, 115, 61, 48, 48, 50, 66]⟩ : ByteArray), (⟨#[99, 111, 109, 109, 97, 61, 48, 48, 50, 67, 32, 104, 121, 112, 104, 101, 110, 61, 48, 48, 50, 68, 32, 112, 101, 114, 105, 111, 100, 61, 48, 48, 50, 69, 32, 115, 108, 97, 115, 104, 61, 48, 48, 50, 70, 32, 122, 101, 114, 111, 61, 48, 48, 51, 48, 32, 111, 110, 101, 61, 48, 48, 51, 49]⟩ : ByteArray), (⟨#[116, 119, 111, 61, 48, 48, 51, 50, 32, 116, 104, 114, 101, 101, 61, 48, 48, 51, 51, 32, 102, 111, 117, 114, 61, 48, 48, 51, 52, 32, 102, 105, 118, 101, 61, 48, 48, 51, 53, 32, 115, 105, 120, 61, 48, 48, 51, 54, 32, 115, 101, 118, 101, 110, 61, 48, 48, 51, 55]⟩ : ByteArray), (⟨#[101, 105, 103, 104, 116, 61, 48, 48, 51, 56, 32, 110, 105, 110, 101, 61, 48, 48, 51, 57, 32, 99, 111, 108, 111, 110, 61, 48, 48, 51, 65, 32, 115, 101, 109, 105, 99, 111, 108, 111, 110, 61, 48, 48, 51, 66, 32, 108, 101, 115, 115, 61, 48, 48, 51, 67, 32, 101, 113, 117, 97, 108, 61, 48, 48, 51, 68]⟩ : ByteArray), (⟨#[103, 114, 101, 97, 116, 101, 114, 61, 48, 48, 51, 69, 32, 113, 117, 101, 115, 116, 105, 111, 110, 61, 48, 48, 51, 70, 32, 97, 116, 61, 48, 48, 52, 48, 32, 65, 61, 48, 48, 52, 49, 32, 66, 61, 48, 48, 52, 50, 32, 67, 61, 48, 48, 52, 51]⟩ : ByteArray), (⟨#[68, 61, 48, 48, 52, 52, 32, 69, 61, 48, 48, 52, 53, 32, 70, 61, 48, 48, 52, 54, 32, 71, 61, 48, 48, 52, 55, 32, 72, 61, 48, 48, 52, 56, 32, 73, 61, 48, 48, 52, 57]⟩ : ByteArray), (⟨#[74, 61, 48, 48, 52, 65, 32, 75, 61, 48, 48, 52, 66, 32, 76, 61, 48, 48, 52, 67, 32, 77, 61, 48, 48, 52, 68, 32, 78, 61, 48, 48, 52, 69, 32, 79, 61, 48, 48, 52, 70]⟩ : ByteArray), (⟨#[80, 61, 48, 48, 53, 48, 32, 81, 61, 48, 48, 53, 49, 32, 82, 61, 48, 48, 53, 50, 32, 83, 61, 48, 48, 53, 51, 32, 84, 61, 48, 48, 53, 52, 32, 85, 61, 48, 48, 53, 53]⟩ : ByteArray), (⟨#[86, 61, 48, 48, 53, 54, 32, 87, 61, 48, 48, 53, 55, 32, 88, 61, 48, 48, 53, 56, 32, 89, 61, 48, 48, 53, 57, 32, 90, 61, 48, 48, 53, 65, 32, 98, 114, 97, 99, 107, 101, 116, 108, 101, 102, 116, 61, 48, 48, 53, 66]⟩ : ByteArray), (⟨#[98, 97, 99, 107, 115, 108, 97, 115, 104, 61, 48, 48, 53, 67, 32, 98, 114, 97, 99, 107, 101, 116, 114, 105, 103, 104, 116, 61, 48, 48, 53, 68, 32, 97, 115, 99, 105, 105, 99, 105, 114, 99, 117, 109, 61, 48, 48, 53, 69, 32, 117, 110, 100, 101, 114, 115, 99, 111, 114, 101, 61, 48, 48, 53, 70, 32, 103, 114, 97, 118, 101, 61, 48, 48, 54, 48, 32, 97, 61, 48, 48, 54, 49]⟩ : ByteArray), (⟨#[98, 61, 48, 48, 54, 50, 32, 99, 61, 48, 48, 54, 51, 32, 100, 61, 48, 48, 54, 52, 32, 101, 61, 48, 48, 54, 53, 32, 102, 61, 48, 48, 54, 54, 32, 103, 61, 48, 48, 54, 55]⟩ : ByteArray), (⟨#[104, 61, 48, 48, 54, 56, 32, 105, 61, 48, 48, 54, 57, 32, 106, 61, 48, 48, 54, 65, 32, 107, 61, 48, 48, 54, 66, 32, 108, 61, 48, 48, 54, 67, 32, 109, 61, 48, 48, 54, 68]⟩ : ByteArray), (⟨#[110, 61, 48, 48, 54, 69, 32, 111, 61, 48, 48, 54, 70, 32, 112, 61, 48, 48, 55, 48, 32, 113, 61, 48, 48, 55, 49, 32, 114, 61, 48, 48, 55, 50, 32, 115, 61, 48, 48, 55, 51]⟩ : ByteArray), (⟨#[116, 61, 48, 48, 55, 52, 32, 117, 61, 48, 48, 55, 53, 32, 118, 61, 48, 48, 55, 54, 32, 119, 61, 48, 48, 55, 55, 32, 120, 61, 48, 48, 55, 56, 32, 121, 61, 48, 48, 55, 57]⟩ : ByteArray), (⟨#[122, 61, 48, 48, 55, 65, 32, 98, 114, 97, 99, 101, 108, 101, 102, 116, 61, 48, 48, 55, 66, 32, 98, 97, 114, 61, 48, 48, 55, 67, 32, 98, 114, 97, 99, 101, 114, 105, 103, 104, 116, 61, 48, 48, 55, 68, 32, 97, 115, 99, 105, 105, 116, 105, 108, 100, 101, 61, 48, 48, 55, 69, 32, 101, 120, 99, 108, 97, 109, 100, 111, 119, 110, 61, 48, 48, 65, 49]⟩ : ByteArray), (⟨#[99, 101, 110, 116, 61, 48, 48, 65, 50, 32, 115, 116, 101, 114, 108, 105, 110, 103, 61, 48, 48, 65, 51, 32, 99, 117, 114, 114, 101, 110, 99, 121, 61, 48, 48, 65, 52, 32, 121, 101, 110, 61, 48, 48, 65, 53, 32, 98, 114, 111, 107, 101, 110, 98, 97, 114, 61, 48, 48, 65, 54, 32, 115, 101, 99, 116, 105, 111, 110, 61, 48, 48, 65, 55]⟩ : ByteArray), (⟨#[100, 105, 101, 114, 101, 115, 105, 115, 61, 48, 48, 65, 56, 32, 99, 111, 112, 121, 114, 105, 103, 104, 116, 61, 48, 48, 65, 57, 32, 111, 114, 100, 102, 101, 109, 105, 110, 105, 110, 101, 61, 48, 48, 65, 65, 32, 103, 117, 105, 108, 108, 101, 109, 111, 116, 108, 101, 102, 116, 61, 48, 48, 65, 66, 32, 108, 111, 103, 105, 99, 97, 108, 110, 111, 116, 61, 48, 48, 65, 67, 32, 114, 101, 103, 105, 115, 116, 101, 114, 101, 100, 61, 48, 48, 65, 69]⟩ : ByteArray), (⟨#[109, 97, 99, 114, 111, 110, 61, 48, 48, 65, 70, 32, 100, 101, 103, 114, 101, 101, 61, 48, 48, 66, 48, 32, 112, 108, 117, 115, 109, 105, 110, 117, 115, 61, 48, 48, 66, 49, 32, 116, 119, 111, 115, 117, 112, 101, 114, 105, 111, 114, 61, 48, 48, 66, 50, 32, 116, 104, 114, 101, 101, 115, 117, 112, 101, 114, 105, 111, 114, 61, 48, 48, 66, 51, 32, 97, 99, 117, 116, 101, 61, 48, 48, 66, 52]⟩ : ByteArray), (⟨#[109, 117, 61, 48, 48, 66, 53, 32, 112, 97, 114, 97, 103, 114, 97, 112, 104, 61, 48, 48, 66, 54, 32, 112, 101, 114, 105, 111, 100, 99, 101, 110, 116, 101, 114, 101, 100, 61, 48, 48, 66, 55, 32, 99, 101, 100, 105, 108, 108, 97, 61, 48, 48, 66, 56, 32, 111, 110, 101, 115, 117, 112, 101, 114, 105, 111, 114, 61, 48, 48, 66, 57, 32, 111, 114, 100, 109, 97, 115, 99, 117, 108, 105, 110, 101, 61, 48, 48, 66, 65]⟩ : ByteArray), (⟨#[103, 117, 105, 108, 108, 101, 109, 111, 116, 114, 105, 103, 104, 116, 61, 48, 48, 66, 66, 32, 111, 110, 101, 113, 117, 97, 114, 116, 101, 114, 61, 48, 48, 66, 67, 32, 111, 110, 101, 104, 97, 108, 102, 61, 48, 48, 66, 68, 32, 116, 104, 114, 101, 101, 113, 117, 97, 114, 116, 101, 114, 115, 61, 48, 48, 66, 69, 32, 113, 117, 101, 115, 116, 105, 111, 110, 100, 111, 119, 110, 61, 48, 48, 66, 70, 32, 65, 103, 114, 97, 118, 101, 61, 48, 48, 67, 48]⟩ : ByteArray), (⟨#[65, 97, 99, 117, 116, 101, 61, 48, 48, 67, 49, 32, 65, 99, 105, 114, 99, 117, 109, 102, 108, 101, 120, 61, 48, 48, 67, 50, 32, 65, 116, 105, 108, 100, 101, 61, 48, 48, 67, 51, 32, 65, 100, 105, 101, 114, 101, 115, 105, 115, 61, 48, 48, 67, 52, 32, 65, 114, 105, 110, 103, 61, 48, 48, 67, 53, 32, 65, 69, 61, 48, 48, 67, 54]⟩ : ByteArray), (⟨#[67, 99, 101, 100, 105, 108, 108, 97, 61, 48, 48, 67, 55, 32, 69, 103, 114, 97, 118, 101, 61, 48, 48, 67, 56, 32, 69, 97, 99, 117, 116, 101, 61, 48, 48, 67, 57, 32, 69, 99, 105, 114, 99, 117, 109, 102, 108, 101, 120, 61, 48, 48, 67, 65, 32, 69, 100, 105, 101, 114, 101, 115, 105, 115, 61, 48, 48, 67, 66, 32, 73, 103, 114, 97, 118, 101, 61, 48, 48, 67, 67]⟩ : ByteArray), (⟨#[73, 97, 99, 117, 116, 101, 61, 48, 48, 67, 68, 32, 73, 99, 105, 114, 99, 117, 109, 102, 108, 101, 120, 61, 48, 48, 67, 69, 32, 73, 100, 105, 101, 114, 101, 115, 105, 115, 61, 48, 48, 67, 70, 32, 69, 116, 104, 61, 48, 48, 68, 48, 32, 78, 116, 105, 108, 100, 101, 61, 48, 48, 68, 49, 32, 79, 103, 114, 97, 118, 101, 61, 48, 48, 68, 50]⟩ : ByteArray), (⟨#[79, 97, 99, 117, 116, 101, 61, 48, 48, 68, 51, 32, 79, 99, 105, 114, 99, 117, 109, 102, 108, 101, 120, 61, 48, 48, 68, 52, 32, 79, 116, 105, 108, 100, 101, 61, 48, 48, 68, 53, 32, 79, 100, 105, 101, 114, 101, 115, 105, 115, 61, 48, 48, 68, 54, 32, 109, 117, 108, 116, 105, 112, 108, 121, 61, 48, 48, 68, 55, 32, 79, 115, 108, 97, 115, 104, 61, 48, 48, 68, 56]⟩ : ByteArray), (⟨#[85, 103, 114, 97, 118, 101, 61, 48, 48, 68, 57, 32, 85, 97, 99, 117, 116, 101, 61, 48, 48, 68, 65, 32, 85, 99, 105, 114, 99, 117, 109, 102, 108, 101, 120, 61, 48, 48, 68, 66, 32, 85, 100, 105, 101, 114, 101, 115, 105, 115, 61, 48, 48, 68, 67, 32, 89, 97, 99, 117, 116, 101, 61, 48, 48, 68, 68, 32, 84, 104, 111, 114, 110, 61, 48, 48, 68, 69]⟩ : ByteArray), (⟨#[103, 101, 114, 109, 97, 110, 100, 98, 108, 115, 61, 48, 48, 68, 70, 32, 97, 103, 114, 97, 118, 101, 61, 48, 48, 69, 48, 32, 97, 97, 99, 117, 116, 101, 61, 48, 48, 69, 49, 32, 97, 99, 105, 114, 99, 117, 109, 102, 108, 101, 120, 61, 48, 48, 69, 50, 32, 97, 116, 105, 108, 100, 101, 61, 48, 48, 69, 51, 32, 97, 100, 105, 101, 114, 101, 115, 105, 115, 61, 48, 48, 69, 52]⟩ : ByteArray), (⟨#[97, 114, 105, 110, 103, 61, 48, 48, 69, 53, 32, 97, 101, 61, 48, 48, 69, 54, 32, 99, 99, 101, 100, 105, 108, 108, 97, 61, 48, 48, 69, 55, 32, 101, 103, 114, 97, 118, 101, 61, 48, 48, 69, 56, 32, 101, 97, 99, 117, 116, 101, 61, 48, 48, 69, 57, 32, 101, 99, 105, 114, 99, 117, 109, 102, 108, 101, 120, 61, 48, 48, 69, 65]⟩ : ByteArray), (⟨#[101, 100, 105, 101, 114, 101, 115, 105, 115, 61, 48, 48, 69, 66, 32, 105, 103, 114, 97, 118, 101, 61, 48, 48, 69, 67, 32, 105, 97, 99, 117, 116, 101, 61, 48, 48, 69, 68, 32, 105, 99, 105, 114, 99, 117, 109, 102, 108, 101, 120, 61, 48, 48, 69, 69, 32, 105, 100, 105, 101, 114, 101, 115, 105, 115, 61, 48, 48, 69, 70, 32, 101, 116, 104, 61, 48, 48, 70, 48]⟩ : ByteArray), (⟨#[110, 116, 105, 108, 100, 101, 61, 48, 48, 70, 49, 32, 111, 103, 114, 97, 118, 101, 61, 48, 48, 70, 50, 32, 111, 97, 99, 117, 116, 101, 61, 48, 48, 70, 51, 32, 111, 99, 105, 114, 99, 117, 109, 102, 108, 101, 120, 61, 48, 48, 70, 52, 32, 111, 116, 105, 108, 100, 101, 61, 48, 48, 70, 53, 32, 111, 100, 105, 101, 114, 101, 115, 105, 115, 61, 48, 48, 70, 54]⟩ : ByteArray)] : List ByteArray)) (inner := [.string (⟨#[115, 112, 97, 99, 101, 61, 48, 48, 50, 48, 32, 101, 120, 99, 108, 97, 109, 61, 48, 48, 50, 49, 32, 113, 117, 111, 116, 101, 100, 98, 108, 61, 48, 48, 50, 50, 32, 110, 117, 109, 98, 101, 114, 115, 105, 103, 110, 61, 48, 48, 50, 51, 32, 100, 111, 108, 108, 97, 114, 61, 48, 48, 50, 52, 32, 112, 101, 114, 99, 101, 110, 116, 61, 48, 48, 50, 53]⟩ : ByteArray), .string (⟨#[97, 109, 112, 101, 114, 115, 97, 110, 100, 61, 48, 48, 50, 54, 32, 113, 117, 111, 116, 101, 115, 105, 110, 103, 108, 101, 61, 48, 48, 50, 55, 32, 112, 97, 114, 101, 110, 108, 101, 102, 116, 61, 48, 48, 50, 56, 32, 112, 97, 114, 101, 110, 114, 105, 103, 104, 116, 61, 48, 48, 50, 57, 32, 97, 115, 116, 101, 114, 105, 115, 107, 61, 48, 48, 50, 65, 32, 112, 108, 117, 115, 61, 48, 48, 50, 66]⟩ : ByteArray), .string (⟨#[99, 111, 109, 109, 97, 61, 48, 48, 50, 67, 32, 104, 121, 112, 104, 101, 110, 61, 48, 48, 50, 68, 32, 112, 101, 114, 105, 111, 100, 61, 48, 48, 50, 69, 32, 115, 108, 97, 115, 104, 61, 48, 48, 50, 70, 32, 122, 101, 114, 111, 61, 48, 48, 51, 48, 32, 111, 110, 101, 61, 48, 48, 51, 49]⟩ : ByteArray), .string (⟨#[116, 119, 111, 61, 48, 48, 51, 50, 32, 116, 104, 114, 101, 101, 61, 48, 48, 51, 51, 32, 102, 111, 117, 114, 61, 48, 48, 51, 52, 32, 102, 105, 118, 101, 61, 48, 48, 51, 53, 32, 115, 105, 120, 61, 48, 48, 51, 54, 32, 115, 101, 118, 101, 110, 61, 48, 48, 51, 55]⟩ : ByteArray), .string (⟨#[101, 105, 103, 104, 116, 61, 48, 48, 51, 56, 32, 110, 105, 110, 101, 61, 48, 48, 51, 57, 32, 99, 111, 108, 111, 110, 61, 48, 48, 51, 65, 32, 115, 101, 109, 105, 99, 111, 108, 111, 110, 61, 48, 48, 51, 66, 32, 108, 101, 115, 115, 61, 48, 48, 51, 67, 32, 101, 113, 117, 97, 108, 61, 48, 48, 51, 68]⟩ : ByteArray), .string (⟨#[103, 114, 101, 97, 116, 101, 114, 61, 48, 48, 51, 69, 32, 113, 117, 101, 115, 116, 105, 111, 110, 61, 48, 48, 51, 70, 32, 97, 116, 61, 48, 48, 52, 48, 32, 65, 61, 48, 48, 52, 49, 32, 66, 61, 48, 48, 52, 50, 32, 67, 61, 48, 48, 52, 51]⟩ : ByteArray), .string (⟨#[68, 61, 48, 48, 52, 52, 32, 69, 61, 48, 48, 52, 53, 32, 70, 61, 48, 48, 52, 54, 32, 71, 61, 48, 48, 52, 55, 32, 72, 61, 48, 48, 52, 56, 32, 73, 61, 48, 48, 52, 57]⟩ : ByteArray), .string (⟨#[74, 61, 48, 48, 52, 65, 32, 75, 61, 48, 48, 52, 66, 32, 76, 61, 48, 48, 52, 67, 32, 77, 61, 48, 48, 52, 68, 32, 78, 61, 48, 48, 52, 69, 32, 79, 61, 48, 48, 52, 70]⟩ : ByteArray), .string (⟨#[80, 61, 48, 48, 53, 48, 32, 81, 61, 48, 48, 53, 49, 32, 82, 61, 48, 48, 53, 50, 32, 83, 61, 48, 48, 53, 51, 32, 84, 61, 48, 48, 53, 52, 32, 85, 61, 48, 48, 53, 53]⟩ : ByteArray), .string (⟨#[86, 61, 48, 48, 53, 54, 32, 87, 61, 48, 48, 53, 55, 32, 88, 61, 48, 48, 53, 56, 32, 89, 61, 48, 48, 53, 57, 32, 90, 61, 48, 48, 53, 65, 32, 98, 114, 97, 99, 107, 101, 116, 108, 101, 102, 116, 61, 48, 48, 53, 66]⟩ : ByteArray), .string (⟨#[98, 97, 99, 107, 115, 108, 97, 115, 104, 61, 48, 48, 53, 67, 32, 98, 114, 97, 99, 107, 101, 116, 114, 105, 103, 104, 116, 61, 48, 48, 53, 68, 32, 97, 115, 99, 105, 105, 99, 105, 114, 99, 117, 109, 61, 48, 48, 53, 69, 32, 117, 110, 100, 101, 114, 115, 99, 111, 114, 101, 61, 48, 48, 53, 70, 32, 103, 114, 97, 118, 101, 61, 48, 48, 54, 48, 32, 97, 61, 48, 48, 54, 49]⟩ : ByteArray), .string (⟨#[98, 61, 48, 48, 54, 50, 32, 99, 61, 48, 48, 54, 51, 32, 100, 61, 48, 48, 54, 52, 32, 101, 61, 48, 48, 54, 53, 32, 102, 61, 48, 48, 54, 54, 32, 103, 61, 48, 48, 54, 55]⟩ : ByteArray), .string (⟨#[104, 61, 48, 48, 54, 56, 32, 105, 61, 48, 48, 54, 57, 32, 106, 61, 48, 48, 54, 65, 32, 107, 61, 48, 48, 54, 66, 32, 108, 61, 48, 48, 54, 67, 32, 109, 61, 48, 48, 54, 68]⟩ : ByteArray), .string (⟨#[110, 61, 48, 48, 54, 69, 32, 111, 61, 48, 48, 54, 70, 32, 112, 61, 48, 48, 55, 48, 32, 113, 61, 48, 48, 55, 49, 32, 114, 61, 48, 48, 55, 50, 32, 115, 61, 48, 48, 55, 51]⟩ : ByteArray), .string (⟨#[116, 61, 48, 48, 55, 52, 32, 117, 61, 48, 48, 55, 53, 32, 118, 61, 48, 48, 55, 54, 32, 119, 61, 48, 48, 55, 55, 32, 120, 61, 48, 48, 55, 56, 32, 121, 61, 48, 48, 55, 57]⟩ : ByteArray), .string (⟨#[122, 61, 48, 48, 55, 65, 32, 98, 114, 97, 99, 101, 108, 101, 102, 116, 61, 48, 48, 55, 66, 32, 98, 97, 114, 61, 48, 48, 55, 67, 32, 98, 114, 97, 99, 101, 114, 105, 103, 104, 116, 61, 48, 48, 55, 68, 32, 97, 115, 99, 105, 105, 116, 105, 108, 100, 101, 61, 48, 48, 55, 69, 32, 101, 120, 99, 108, 97, 109, 100, 111, 119, 110, 61, 48, 48, 65, 49]⟩ : ByteArray), .string (⟨#[99, 101, 110, 116, 61, 48, 48, 65, 50, 32, 115, 116, 101, 114, 108, 105, 110, 103, 61, 48, 48, 65, 51, 32, 99, 117, 114, 114, 101, 110, 99, 121, 61, 48, 48, 65, 52, 32, 121, 101, 110, 61, 48, 48, 65, 53, 32, 98, 114, 111, 107, 101, 110, 98, 97, 114, 61, 48, 48, 65, 54, 32, 115, 101, 99, 116, 105, 111, 110, 61, 48, 48, 65, 55]⟩ : ByteArray), .string (⟨#[100, 105, 101, 114, 101, 115, 105, 115, 61, 48, 48, 65, 56, 32, 99, 111, 112, 121, 114, 105, 103, 104, 116, 61, 48, 48, 65, 57, 32, 111, 114, 100, 102, 101, 109, 105, 110, 105, 110, 101, 61, 48, 48, 65, 65, 32, 103, 117, 105, 108, 108, 101, 109, 111, 116, 108, 101, 102, 116, 61, 48, 48, 65, 66, 32, 108, 111, 103, 105, 99, 97, 108, 110, 111, 116, 61, 48, 48, 65, 67, 32, 114, 101, 103, 105, 115, 116, 101, 114, 101, 100, 61, 48, 48, 65, 69]⟩ : ByteArray), .string (⟨#[109, 97, 99, 114, 111, 110, 61, 48, 48, 65, 70, 32, 100, 101, 103, 114, 101, 101, 61, 48, 48, 66, 48, 32, 112, 108, 117, 115, 109, 105, 110, 117, 115, 61, 48, 48, 66, 49, 32, 116, 119, 111, 115, 117, 112, 101, 114, 105, 111, 114, 61, 48, 48, 66, 50, 32, 116, 104, 114, 101, 101, 115, 117, 112, 101, 114, 105, 111, 114, 61, 48, 48, 66, 51, 32, 97, 99, 117, 116, 101, 61, 48, 48, 66, 52]⟩ : ByteArray), .string (⟨#[109, 117, 61, 48, 48, 66, 53, 32, 112, 97, 114, 97, 103, 114, 97, 112, 104, 61, 48, 48, 66, 54, 32, 112, 101, 114, 105, 111, 100, 99, 101, 110, 116, 101, 114, 101, 100, 61, 48, 48, 66, 55, 32, 99, 101, 100, 105, 108, 108, 97, 61, 48, 48, 66, 56, 32, 111, 110, 101, 115, 117, 112, 101, 114, 105, 111, 114, 61, 48, 48, 66, 57, 32, 111, 114, 100, 109, 97, 115, 99, 117, 108, 105, 110, 101, 61, 48, 48, 66, 65]⟩ : ByteArray), .string (⟨#[103, 117, 105, 108, 108, 101, 109, 111, 116, 114, 105, 103, 104, 116, 61, 48, 48, 66, 66, 32, 111, 110, 101, 113, 117, 97, 114, 116, 101, 114, 61, 48, 48, 66, 67, 32, 111, 110, 101, 104, 97, 108, 102, 61, 48, 48, 66, 68, 32, 116, 104, 114, 101, 101, 113, 117, 97, 114, 116, 101, 114, 115, 61, 48, 48, 66, 69, 32, 113, 117, 101, 115, 116, 105, 111, 110, 100, 111, 119, 110, 61, 48, 48, 66, 70, 32, 65, 103, 114, 97, 118, 101, 61, 48, 48, 67, 48]⟩ : ByteArray), .string (⟨#[65, 97, 99, 117, 116, 101, 61, 48, 48, 67, 49, 32, 65, 99, 105, 114, 99, 117, 109, 102, 108, 101, 120, 61, 48, 48, 67, 50, 32, 65, 116, 105, 108, 100, 101, 61, 48, 48, 67, 51, 32, 65, 100, 105, 101, 114, 101, 115, 105, 115, 61, 48, 48, 67, 52, 32, 65, 114, 105, 110, 103, 61, 48, 48, 67, 53, 32, 65, 69, 61, 48, 48, 67, 54]⟩ : ByteArray), .string (⟨#[67, 99, 101, 100, 105, 108, 108, 97, 61, 48, 48, 67, 55, 32, 69, 103, 114, 97, 118, 101, 61, 48, 48, 67, 56, 32, 69, 97, 99, 117, 116, 101, 61, 48, 48, 67, 57, 32, 69, 99, 105, 114, 99, 117, 109, 102, 108, 101, 120, 61, 48, 48, 67, 65, 32, 69, 100, 105, 101, 114, 101, 115, 105, 115, 61, 48, 48, 67, 66, 32, 73, 103, 114, 97, 118, 101, 61, 48, 48, 67, 67]⟩ : ByteArray), .string (⟨#[73, 97, 99, 117, 116, 101, 61, 48, 48, 67, 68, 32, 73, 99, 105, 114, 99, 117, 109, 102, 108, 101, 120, 61, 48, 48, 67, 69, 32, 73, 100, 105, 101, 114, 101, 115, 105, 115, 61, 48, 48, 67, 70, 32, 69, 116, 104, 61, 48, 48, 68, 48, 32, 78, 116, 105, 108, 100, 101, 61, 48, 48, 68, 49, 32, 79, 103, 114, 97, 118, 101, 61, 48, 48, 68, 50]⟩ : ByteArray), .string (⟨#[79, 97, 99, 117, 116, 101, 61, 48, 48, 68, 51, 32, 79, 99, 105, 114, 99, 117, 109, 102, 108, 101, 120, 61, 48, 48, 68, 52, 32, 79, 116, 105, 108, 100, 101, 61, 48, 48, 68, 53, 32, 79, 100, 105, 101, 114, 101, 115, 105, 115, 61, 48, 48, 68, 54, 32, 109, 117, 108, 116, 105, 112, 108, 121, 61, 48, 48, 68, 55, 32, 79, 115, 108, 97, 115, 104, 61, 48, 48, 68, 56]⟩ : ByteArray), .string (⟨#[85, 103, 114, 97, 118, 101, 61, 48, 48, 68, 57, 32, 85, 97, 99, 117, 116, 101, 61, 48, 48, 68, 65, 32, 85, 99, 105, 114, 99, 117, 109, 102, 108, 101, 120, 61, 48, 48, 68, 66, 32, 85, 100, 105, 101, 114, 101, 115, 105, 115, 61, 48, 48, 68, 67, 32, 89, 97, 99, 117, 116, 101, 61, 48, 48, 68, 68, 32, 84, 104, 111, 114, 110, 61, 48, 48, 68, 69]⟩ : ByteArray), .string (⟨#[103, 101, 114, 109, 97, 110, 100, 98, 108, 115, 61, 48, 48, 68, 70, 32, 97, 103, 114, 97, 118, 101, 61, 48, 48, 69, 48, 32, 97, 97, 99, 117, 116, 101, 61, 48, 48, 69, 49, 32, 97, 99, 105, 114, 99, 117, 109, 102, 108, 101, 120, 61, 48, 48, 69, 50, 32, 97, 116, 105, 108, 100, 101, 61, 48, 48, 69, 51, 32, 97, 100, 105, 101, 114, 101, 115, 105, 115, 61, 48, 48, 69, 52]⟩ : ByteArray), .string (⟨#[97, 114, 105, 110, 103, 61, 48, 48, 69, 53, 32, 97, 101, 61, 48, 48, 69, 54, 32, 99, 99, 101, 100, 105, 108, 108, 97, 61, 48, 48, 69, 55, 32, 101, 103, 114, 97, 118, 101, 61, 48, 48, 69, 56, 32, 101, 97, 99, 117, 116, 101, 61, 48, 48, 69, 57, 32, 101, 99, 105, 114, 99, 117, 109, 102, 108, 101, 120, 61, 48, 48, 69, 65]⟩ : ByteArray), .string (⟨#[101, 100, 105, 101, 114, 101, 115, 105, 115, 61, 48, 48, 69, 66, 32, 105, 103, 114, 97, 118, 101, 61, 48, 48, 69, 67, 32, 105, 97, 99, 117, 116, 101, 61, 48, 48, 69, 68, 32, 105, 99, 105, 114, 99, 117, 109, 102, 108, 101, 120, 61, 48, 48, 69, 69, 32, 105, 100, 105, 101, 114, 101, 115, 105, 115, 61, 48, 48, 69, 70, 32, 101, 116, 104, 61, 48, 48, 70, 48]⟩ : ByteArray), .string (⟨#[110, 116, 105, 108, 100, 101, 61, 48, 48, 70, 49, 32, 111, 103, 114, 97, 118, 101, 61, 48, 48, 70, 50, 32, 111, 97, 99, 117, 116, 101, 61, 48, 48, 70, 51, 32, 111, 99, 105, 114, 99, 117, 109, 102, 108, 101, 120, 61, 48, 48, 70, 52, 32, 111, 116, 105, 108, 100, 101, 61, 48, 48, 70, 53, 32, 111, 100, 105, 101, 114, 101, 115, 105, 115, 61, 48, 48, 70, 54]⟩ : ByteArray)]) (ok := fun _ => True) (okp := fun _ => True) ?hr ?hp (fun _ hk => hk) trivial (Below.refl _ _) (Nat.le_refl _) (by simp) ?_; (case hd => rfl); (case hg => rfl); (case hr => first | (go_simp; done) | (go_simp; rfl)); (case hp => exact (Reps.one (show Kd.M Kd.string _ _ _ (⟨#[115, 112, 97, 99, 101, 61, 48, 48, 50, 48, 32, 101, 120, 99, 108, 97, 109, 61, 48, 48, 50, 49, 32, 113, 117, 111, 116, 101, 100, 98, 108, 61, 48, 48, 50, 50, 32, 110, 117, 109, 98, 101, 114, 115, 105, 103, 110, 61, 48, 48, 50, 51, 32, 100, 111, 108, 108, 97, 114, 61, 48, 48, 50, 52, 32, 112, 101, 114, 99, 101, 110, 116, 61, 48, 48, 50, 53]⟩ : ByteArray) [.string (⟨#[115, 112, 97, 99, 101, 61, 48, 48, 50, 48, 32, 101, 120, 99, 108, 97, 109, 61, 48, 48, 50, 49, 32, 113, 117, 111, 116, 101, 100, 98, 108, 61, 48, 48, 50, 50, 32, 110, 117, 109, 98, 101, 114, 115, 105, 103, 110, 61, 48, 48, 50, 51, 32, 100, 111, 108, 108, 97, 114, 61, 48, 48, 50, 52, 32, 112, 101, 114, 99, 101, 110, 116, 61, 48, 48, 50, 53]⟩ : ByteArray)] from rfl) (Reps.one (show Kd.M Kd.string _ _ _ (⟨#[97, 109, 112, 101, 114, 115, 97, 110, 100, 61, 48, 48, 50, 54, 32, 113, 117, 111, 116, 101, 115, 105, 110, 103, 108, 101, 61, 48, 48, 50, 55, 32, 112, 97, 114, 101, 110, 108, 101, 102, 116, 61, 48, 48, 50, 56, 32, 112, 97, 114, 101, 110, 114, 105, 103, 104, 116, 61, 48, 48, 50, 57, 32, 97, 115, 116, 101, 114, 105, 115, 107, 61, 48, 48, 50, 65, 32, 112, 108, 117, 115, 61, 48, 48, 50, 66]⟩ : ByteArray) [.string (⟨#[97, 109, 112, 101, 114, 115, 97, 110, 100, 61, 48, 48, 50, 54, 32, 113, 117, 111, 116, 101, 115, 105, 110, 103, 108, 101, 61, 48, 48, 50, 55, 32, 112, 97, 114, 101, 110, 108, 101, 102, 116, 61, 48, 48, 50, 56, 32, 112, 97, 114, 101, 110, 114, 105, 103, 104, 116, 61, 48, 48, 50, 57, 32, 97, 115, 116, 101, 114, 105, 115, 107, 61, 48, 48, 50, 65, 32, 112, 108, 117, 115, 61, 48, 48, 50, 66]⟩ : ByteArray)] from rfl) (Reps.one (show Kd.M Kd.string _ _ _ (⟨#[99, 111, 109, 109, 97, 61, 48, 48, 50, 67, 32, 104, 121, 112, 104, 101, 110, 61, 48, 48, 50, 68, 32, 112, 101, 114, 105, 111, 100, 61, 48, 48, 50, 69, 32, 115, 108, 97, 115, 104, 61, 48, 48, 50, 70, 32, 122, 101, 114, 111, 61, 48, 48, 51, 48, 32, 111, 110, 101, 61, 48, 48, 51, 49]⟩ : ByteArray) [.string (⟨#[99, 111, 109, 109, 97, 61, 48, 48, 50, 67, 32, 104, 121, 112, 104, 101, 110, 61, 48, 48, 50, 68, 32, 112, 101, 114, 105, 111, 100, 61, 48, 48, 50, 69, 32, 115, 108, 97, 115, 104, 61, 48, 48, 50, 70, 32, 122, 101, 114, 111, 61, 48, 48, 51, 48, 32, 111, 110, 101, 61, 48, 48, 51, 49]⟩ : ByteArray)] from rfl) (Reps.one (show Kd.M Kd.string _ _ _ (⟨#[116, 119, 111, 61, 48, 48, 51, 50, 32, 116, 104, 114, 101, 101, 61, 48, 48, 51, 51, 32, 102, 111, 117, 114, 61, 48, 48, 51, 52, 32, 102, 105, 118, 101, 61, 48, 48, 51, 53, 32, 115, 105, 120, 61, 48, 48, 51, 54, 32, 115, 101, 118, 101, 110, 61, 48, 48, 51, 55]⟩ : ByteArray) [.string (⟨#[116, 119, 111, 61, 48, 48, 51, 50, 32, 116, 104, 114, 101, 101, 61, 48, 48, 51, 51, 32, 102, 111, 117, 114, 61, 48, 48, 51, 52, 32, 102, 105, 118, 101, 61, 48, 48, 51, 53, 32, 115, 105, 120, 61, 48, 48, 51, 54, 32, 115, 101, 118, 101, 110, 61, 48, 48, 51, 55]⟩ : ByteArray)] from rfl) (Reps.one (show Kd.M Kd.string _ _ _ (⟨#[101, 105, 103, 104, 116, 61, 48, 48, 51, 56, 32, 110, 105, 110, 101, 61, 48, 48, 51, 57, 32, 99, 111, 108, 111, 110, 61, 48, 48, 51, 65, 32, 115, 101, 109, 105, 99, 111, 108, 111, 110, 61, 48, 48, 51, 66, 32, 108, 101, 115, 115, 61, 48, 48, 51, 67, 32, 101, 113, 117, 97, 108, 61, 48, 48, 51, 68]⟩ : ByteArray) [.string (⟨#[101, 105, 103, 104, 116, 61, 48, 48, 51, 56, 32, 110, 105, 110, 101, 61, 48, 48, 51, 57, 32, 99, 111, 108, 111, 110, 61, 48, 48, 51, 65, 32, 115, 101, 109, 105, 99, 111, 108, 111, 110, 61, 48, 48, 51, 66, 32, 108, 101, 115, 115, 61, 48, 48, 51, 67, 32, 101, 113, 117, 97, 108, 61, 48, 48, 51, 68]⟩ : ByteArray)] from rfl) (Reps.one (show Kd.M Kd.string _ _ _ (⟨#[103, 114, 101, 97, 116, 101, 114, 61, 48, 48, 51, 69, 32, 113, 117, 101, 115, 116, 105, 111, 110, 61, 48, 48, 51, 70, 32, 97, 116, 61, 48, 48, 52, 48, 32, 65, 61, 48, 48, 52, 49, 32, 66, 61, 48, 48, 52, 50, 32, 67, 61, 48, 48, 52, 51]⟩ : ByteArray) [.string (⟨#[103, 114, 101, 97, 116, 101, 114, 61, 48, 48, 51, 69, 32, 113, 117, 101, 115, 116, 105, 111, 110, 61, 48, 48, 51, 70, 32, 97, 116, 61, 48, 48, 52, 48, 32, 65, 61, 48, 48, 52, 49, 32, 66, 61, 48, 48, 52, 50, 32, 67, 61, 48, 48, 52, 51]⟩ : ByteArray)] from rfl) (Reps.one (show Kd.M Kd.string _ _ _ (⟨#[68, 61, 48, 48, 52, 52, 32, 69, 61, 48, 48, 52, 53, 32, 70, 61, 48, 48, 52, 54, 32, 71, 61, 48, 48, 52, 55, 32, 72, 61, 48, 48, 52, 56, 32, 73, 61, 48, 48, 52, 57]⟩ : ByteArray) [.string (⟨#[68, 61, 48, 48, 52, 52, 32, 69, 61, 48, 48, 52, 53, 32, 70, 61, 48, 48, 52, 54, 32, 71, 61, 48, 48, 52, 55, 32, 72, 61, 48, 48, 52, 56, 32, 73, 61, 48, 48, 52, 57]⟩ : ByteArray)] from rfl) (Reps.one (show Kd.M Kd.string _ _ _ (⟨#[74, 61, 48, 48, 52, 65, 32, 75, 61, 48, 48, 52, 66, 32, 76, 61, 48, 48, 52, 67, 32, 77, 61, 48, 48, 52, 68, 32, 78, 61, 48, 48, 52, 69, 32, 79, 61, 48, 48, 52, 70]⟩ : ByteArray) [.string (⟨#[74, 61, 48, 48, 52, 65, 32, 75, 61, 48, 48, 52, 66, 32, 76, 61, 48, 48, 52, 67, 32, 77, 61, 48, 48, 52, 68, 32, 78, 61, 48, 48, 52, 69, 32, 79, 61, 48, 48, 52, 70]⟩ : ByteArray)] from rfl) (Reps.one (show Kd.M Kd.string _ _ _ (⟨#[80, 61, 48, 48, 53, 48, 32, 81, 61, 48, 48, 53, 49, 32, 82, 61, 48, 48, 53, 50, 32, 83, 61, 48, 48, 53, 51, 32, 84, 61, 48, 48, 53, 52, 32, 85, 61, 48, 48, 53, 53]⟩ : ByteArray) [.string (⟨#[80, 61, 48, 48, 53, 48, 32, 81, 61, 48, 48, 53, 49, 32, 82, 61, 48, 48, 53, 50, 32, 83, 61, 48, 48, 53, 51, 32, 84, 61, 48, 48, 53, 52, 32, 85, 61, 48, 48, 53, 53]⟩ : ByteArray)] from rfl) (Reps.one (show Kd.M Kd.string _ _ _ (⟨#[86, 61, 48, 48, 53, 54, 32, 87, 61, 48, 48, 53, 55, 32, 88, 61, 48, 48, 53, 56, 32, 89, 61, 48, 48, 53, 57, 32, 90, 61, 48, 48, 53, 65, 32, 98, 114, 97, 99, 107, 101, 116, 108, 101, 102, 116, 61, 48, 48, 53, 66]⟩ : ByteArray) [.string (⟨#[86, 61, 48, 48, 53, 54, 32, 87, 61, 48, 48, 53, 55, 32, 88, 61, 48, 48, 53, 56, 32, 89, 61, 48, 48, 53, 57, 32, 90, 61, 48, 48, 53, 65, 32, 98, 114, 97, 99, 107, 101, 116, 108, 101, 102, 116, 61, 48, 48, 53, 66]⟩ : ByteArray)] from rfl) (Reps.one (show Kd.M Kd.string _ _ _ (⟨#[98, 97, 99, 107, 115, 108, 97, 115, 104, 61, 48, 48, 53, 67, 32, 98, 114, 97, 99, 107, 101, 116, 114, 105, 103, 104, 116, 61, 48, 48, 53, 68, 32, 97, 115, 99, 105, 105, 99, 105, 114, 99, 117, 109, 61, 48, 48, 53, 69, 32, 117, 110, 100, 101, 114, 115, 99, 111, 114, 101, 61, 48, 48, 53, 70, 32, 103, 114, 97, 118, 101, 61, 48, 48, 54, 48, 32, 97, 61, 48, 48, 54, 49]⟩ : ByteArray) [.string (⟨#[98, 97, 99, 107, 115, 108, 97, 115, 104, 61, 48, 48, 53, 67, 32, 98, 114, 97, 99, 107, 101, 116, 114, 105, 103, 104, 116, 61, 48, 48, 53, 68, 32, 97, 115, 99, 105, 105, 99, 105, 114, 99, 117, 109, 61, 48, 48, 53, 69, 32, 117, 110, 100, 101, 114, 115, 99, 111, 114, 101, 61, 48, 48, 53, 70, 32, 103, 114, 97, 118, 101, 61, 48, 48, 54, 48, 32, 97, 61, 48, 48, 54, 49]⟩ : ByteArray)] from rfl) (Reps.one (show Kd.M Kd.string _ _ _ (⟨#[98, 61, 48, 48, 54, 50, 32, 99, 61, 48, 48, 54, 51, 32, 100, 61, 48, 48, 54, 52, 32, 101, 61, 48, 48, 54, 53, 32, 102, 61, 48, 48, 54, 54, 32, 103, 61, 48, 48, 54, 55]⟩ : ByteArray) [.string (⟨#[98, 61, 48, 48, 54, 50, 32, 99, 61, 48, 48, 54, 51, 32, 100, 61, 48, 48, 54, 52, 32, 101, 61, 48, 48, 54, 53, 32, 102, 61, 48, 48, 54, 54, 32, 103, 61, 48, 48, 54, 55]⟩ : ByteArray)] from rfl) (Reps.one (show Kd.M Kd.string _ _ _ (⟨#[104, 61, 48, 48, 54, 56, 32, 105, 61, 48, 48, 54, 57, 32, 106, 61, 48, 48, 54, 65, 32, 107, 61, 48, 48, 54, 66, 32, 108, 61, 48, 48, 54, 67, 32, 109, 61, 48, 48, 54, 68]⟩ : ByteArray) [.string (⟨#[104, 61, 48, 48, 54, 56, 32, 105, 61, 48, 48, 54, 57, 32, 106, 61, 48, 48, 54, 65, 32, 107, 61, 48, 48, 54, 66, 32, 108, 61, 48, 48, 54, 67, 32, 109, 61, 48, 48, 54, 68]⟩ : ByteArray)] from rfl) (Reps.one (show Kd.M Kd.string _ _ _ (⟨#[110, 61, 48, 48, 54, 69, 32, 111, 61, 48, 48, 54, 70, 32, 112, 61, 48, 48, 55, 48, 32, 113, 61, 48, 48, 55, 49, 32, 114, 61, 48, 48, 55, 50, 32, 115, 61, 48, 48, 55, 51]⟩ : ByteArray) [.string (⟨#[110, 61, 48, 48, 54, 69, 32, 111, 61, 48, 48, 54, 70, 32, 112, 61, 48, 48, 55, 48, 32, 113, 61, 48, 48, 55, 49, 32, 114, 61, 48, 48, 55, 50, 32, 115, 61, 48, 48, 55, 51]⟩ : ByteArray)] from rfl) (Reps.one (show Kd.M Kd.string _ _ _ (⟨#[116, 61, 48, 48, 55, 52, 32, 117, 61, 48, 48, 55, 53, 32, 118, 61, 48, 48, 55, 54, 32, 119, 61, 48, 48, 55, 55, 32, 120, 61, 48, 48, 55, 56, 32, 121, 61, 48, 48, 55, 57]⟩ : ByteArray) [.string (⟨#[116, 61, 48, 48, 55, 52, 32, 117, 61, 48, 48, 55, 53, 32, 118, 61, 48, 48, 55, 54, 32, 119, 61, 48, 48, 55, 55, 32, 120, 61, 48, 48, 55, 56, 32, 121, 61, 48, 48, 55, 57]⟩ : ByteArray)] from rfl) (Reps.one (show Kd.M Kd.string _ _ _ (⟨#[122, 61, 48, 48, 55, 65, 32, 98, 114, 97, 99, 101, 108, 101, 102, 116, 61, 48, 48, 55, 66, 32, 98, 97, 114, 61, 48, 48, 55, 67, 32, 98, 114, 97, 99, 101, 114, 105, 103, 104, 116, 61, 48, 48, 55, 68, 32, 97, 115, 99, 105, 105, 116, 105, 108, 100, 101, 61, 48, 48, 55, 69, 32, 101, 120, 99, 108, 97, 109, 100, 111, 119, 110, 61, 48, 48, 65, 49]⟩ : ByteArray) [.string (⟨#[122, 61, 48, 48, 55, 65, 32, 98, 114, 97, 99, 101, 108, 101, 102, 116, 61, 48, 48, 55, 66, 32, 98, 97, 114, 61, 48, 48, 55, 67, 32, 98, 114, 97, 99, 101, 114, 105, 103, 104, 116, 61, 48, 48, 55, 68, 32, 97, 115, 99, 105, 105, 116, 105, 108, 100, 101, 61, 48, 48, 55, 69, 32, 101, 120, 99, 108, 97, 109, 100, 111, 119, 110, 61, 48, 48, 65, 49]⟩ : ByteArray)] from rfl) (Reps.one (show Kd.M Kd.string _ _ _ (⟨#[99, 101, 110, 116, 61, 48, 48, 65, 50, 32, 115, 116, 101, 114, 108, 105, 110, 103, 61, 48, 48, 65, 51, 32, 99, 117, 114, 114, 101, 110, 99, 121, 61, 48, 48, 65, 52, 32, 121, 101, 110, 61, 48, 48, 65, 53, 32, 98, 114, 111, 107, 101, 110, 98, 97, 114, 61, 48, 48, 65, 54, 32, 115, 101, 99, 116, 105, 111, 110, 61, 48, 48, 65, 55]⟩ : ByteArray) [.string (⟨#[99, 101, 110, 116, 61, 48, 48, 65, 50, 32, 115, 116, 101, 114, 108, 105, 110, 103, 61, 48, 48, 65, 51, 32, 99, 117, 114, 114, 101, 110, 99, 121, 61, 48, 48, 65, 52, 32, 121, 101, 110, 61, 48, 48, 65, 53, 32, 98, 114, 111, 107, 101, 110, 98, 97, 114, 61, 48, 48, 65, 54, 32, 115, 101, 99, 116, 105, 111, 110, 61, 48, 48, 65, 55]⟩ : ByteArray)] from rfl) (Reps.one (show Kd.M Kd.string _ _ _ (⟨#[100, 105, 101, 114, 101, 115, 105, 115, 61, 48, 48, 65, 56, 32, 99, 111, 112, 121, 114, 105, 103, 104, 116, 61, 48, 48, 65, 57, 32, 111, 114, 100, 102, 101, 109, 105, 110, 105, 110, 101, 61, 48, 48, 65, 65, 32, 103, 117, 105, 108, 108, 101, 109, 111, 116, 108, 101, 102, 116, 61, 48, 48, 65, 66, 32, 108, 111, 103, 105, 99, 97, 108, 110, 111, 116, 61, 48, 48, 65, 67, 32, 114, 101, 103, 105, 115, 116, 101, 114, 101, 100, 61, 48, 48, 65, 69]⟩ : ByteArray) [.string (⟨#[100, 105, 101, 114, 101, 115, 105, 115, 61, 48, 48, 65, 56, 32, 99, 111, 112, 121, 114, 105, 103, 104, 116, 61, 48, 48, 65, 57, 32, 111, 114, 100, 102, 101, 109, 105, 110, 105, 110, 101, 61, 48, 48, 65, 65, 32, 103, 117, 105, 108, 108, 101, 109, 111, 116, 108, 101, 102, 116, 61, 48, 48, 65, 66, 32, 108, 111, 103, 105, 99, 97, 108, 110, 111, 116, 61, 48, 48, 65, 67, 32, 114, 101, 103, 105, 115, 116, 101, 114, 101, 100, 61, 48, 48, 65, 69]⟩ : ByteArray)] from rfl) (Reps.one (show Kd.M Kd.string _ _ _ (⟨#[109, 97, 99, 114, 111, 110, 61, 48, 48, 65, 70, 32, 100, 101, 103, 114, 101, 101, 61, 48, 48, 66, 48, 32, 112, 108, 117, 115, 109, 105, 110, 117, 115, 61, 48, 48, 66, 49, 32, 116, 119, 111, 115, 117, 112, 101, 114, 105, 111, 114, 61, 48, 48, 66, 50, 32, 116, 104, 114, 101, 101, 115, 117, 112, 101, 114, 105, 111, 114, 61, 48, 48, 66, 51, 32, 97, 99, 117, 116, 101, 61, 48, 48, 66, 52]⟩ : ByteArray) [.string (⟨#[109, 97, 99, 114, 111, 110, 61, 48, 48, 65, 70, 32, 100, 101, 103, 114, 101, 101, 61, 48, 48, 66, 48, 32, 112, 108, 117, 115, 109, 105, 110, 117, 115, 61, 48, 48, 66, 49, 32, 116, 119, 111, 115, 117, 112, 101, 114, 105, 111, 114, 61, 48, 48, 66, 50, 32, 116, 104, 114, 101, 101, 115, 117, 112, 101, 114, 105, 111, 114, 61, 48, 48, 66, 51, 32, 97, 99, 117, 116, 101, 61, 48, 48, 66, 52]⟩ : ByteArray)] from rfl) (Reps.one (show Kd.M Kd.string _ _ _ (⟨#[109, 117, 61, 48, 48, 66, 53, 32, 112, 97, 114, 97, 103, 114, 97, 112, 104, 61, 48, 48, 66, 54, 32, 112, 101, 114, 105, 111, 100, 99, 101, 110, 116, 101, 114, 101, 100, 61, 48, 48, 66, 55, 32, 99, 101, 100, 105, 108, 108, 97, 61, 48, 48, 66, 56, 32, 111, 110, 101, 115, 117, 112, 101, 114, 105, 111, 114, 61, 48, 48, 66, 57, 32, 111, 114, 100, 109, 97, 115, 99, 117, 108, 105, 110, 101, 61, 48, 48, 66, 65]⟩ : ByteArray) [.string (⟨#[109, 117, 61, 48, 48, 66, 53, 32, 112, 97, 114, 97, 103, 114, 97, 112, 104, 61, 48, 48, 66, 54, 32, 112, 101, 114, 105, 111, 100, 99, 101, 110, 116, 101, 114, 101, 100, 61, 48, 48, 66, 55, 32, 99, 101, 100, 105, 108, 108, 97, 61, 48, 48, 66, 56, 32, 111, 110, 101, 115, 117, 112, 101, 114, 105, 111, 114, 61, 48, 48, 66, 57, 32, 111, 114, 100, 109, 97, 115, 99, 117, 108, 105, 110, 101, 61, 48, 48, 66, 65]⟩ : ByteArray)] from rfl) (Reps.one (show Kd.M Kd.string _ _ _ (⟨#[103, 117, 105, 108, 108, 101, 109, 111, 116, 114, 105, 103, 104, 116, 61, 48, 48, 66, 66, 32, 111, 110, 101, 113, 117, 97, 114, 116, 101, 114, 61, 48, 48, 66, 67, 32, 111, 110, 101, 104, 97, 108, 102, 61, 48, 48, 66, 68, 32, 116, 104, 114, 101, 101, 113, 117, 97, 114, 116, 101, 114, 115, 61, 48, 48, 66, 69, 32, 113, 117, 101, 115, 116, 105, 111, 110, 100, 111, 119, 110, 61, 48, 48, 66, 70, 32, 65, 103, 114, 97, 118, 101, 61, 48, 48, 67, 48]⟩ : ByteArray) [.string (⟨#[103, 117, 105, 108, 108, 101, 109, 111, 116, 114, 105, 103, 104, 116, 61, 48, 48, 66, 66, 32, 111, 110, 101, 113, 117, 97, 114, 116, 101, 114, 61, 48, 48, 66, 67, 32, 111, 110, 101, 104, 97, 108, 102, 61, 48, 48, 66, 68, 32, 116, 104, 114, 101, 101, 113, 117, 97, 114, 116, 101, 114, 115, 61, 48, 48, 66, 69, 32, 113, 117, 101, 115, 116, 105, 111, 110, 100, 111, 119, 110, 61, 48, 48, 66, 70, 32, 65, 103, 114, 97, 118, 101, 61, 48, 48, 67, 48]⟩ : ByteArray)] from rfl) (Reps.one (show Kd.M Kd.string _ _ _ (⟨#[65, 97, 99, 117, 116, 101, 61, 48, 48, 67, 49, 32, 65, 99, 105, 114, 99, 117, 109, 102, 108, 101, 120, 61, 48, 48, 67, 50, 32, 65, 116, 105, 108, 100, 101, 61, 48, 48, 67, 51, 32, 65, 100, 105, 101, 114, 101, 115, 105, 115, 61, 48, 48, 67, 52, 32, 65, 114, 105, 110, 103, 61, 48, 48, 67, 53, 32, 65, 69, 61, 48, 48, 67, 54]⟩ : ByteArray) [.string (⟨#[65, 97, 99, 117, 116, 101, 61, 48, 48, 67, 49, 32, 65, 99, 105, 114, 99, 117, 109, 102, 108, 101, 120, 61, 48, 48, 67, 50, 32, 65, 116, 105, 108, 100, 101, 61, 48, 48, 67, 51, 32, 65, 100, 105, 101, 114, 101, 115, 105, 115, 61, 48, 48, 67, 52, 32, 65, 114, 105, 110, 103, 61, 48, 48, 67, 53, 32, 65, 69, 61, 48, 48, 67, 54]⟩ : ByteArray)] from rfl) (Reps.one (show Kd.M Kd.string _ _ _ (⟨#[67, 99, 101, 100, 105, 108, 108, 97, 61, 48, 48, 67, 55, 32, 69, 103, 114, 97, 118, 101, 61, 48, 48, 67, 56, 32, 69, 97, 99, 117, 116, 101, 61, 48, 48, 67, 57, 32, 69, 99, 105, 114, 99, 117, 109, 102, 108, 101, 120, 61, 48, 48, 67, 65, 32, 69, 100, 105, 101, 114, 101, 115, 105, 115, 61, 48, 48, 67, 66, 32, 73, 103, 114, 97, 118, 101, 61, 48, 48, 67, 67]⟩ : ByteArray) [.string (⟨#[67, 99, 101, 100, 105, 108, 108, 97, 61, 48, 48, 67, 55, 32, 69, 103, 114, 97, 118, 101, 61, 48, 48, 67, 56, 32, 69, 97, 99, 117, 116, 101, 61, 48, 48, 67, 57, 32, 69, 99, 105, 114, 99, 117, 109, 102, 108, 101, 120, 61, 48, 48, 67, 65, 32, 69, 100, 105, 101, 114, 101, 115, 105, 115, 61, 48, 48, 67, 66, 32, 73, 103, 114, 97, 118, 101, 61, 48, 48, 67, 67]⟩ : ByteArray)] from rfl) (Reps.one (show Kd.M Kd.string _ _ _ (⟨#[73, 97, 99, 117, 116, 101, 61, 48, 48, 67, 68, 32, 73, 99, 105, 114, 99, 117, 109, 102, 108, 101, 120, 61, 48, 48, 67, 69, 32, 73, 100, 105, 101, 114, 101, 115, 105, 115, 61, 48, 48, 67, 70, 32, 69, 116, 104, 61, 48, 48, 68, 48, 32, 78, 116, 105, 108, 100, 101, 61, 48, 48, 68, 49, 32, 79, 103, 114, 97, 118, 101, 61, 48, 48, 68, 50]⟩ : ByteArray) [.string (⟨#[73, 97, 99, 117, 116, 101, 61, 48, 48, 67, 68, 32, 73, 99, 105, 114, 99, 117, 109, 102, 108, 101, 120, 61, 48, 48, 67, 69, 32, 73, 100, 105, 101, 114, 101, 115, 105, 115, 61, 48, 48, 67, 70, 32, 69, 116, 104, 61, 48, 48, 68, 48, 32, 78, 116, 105, 108, 100, 101, 61, 48, 48, 68, 49, 32, 79, 103, 114, 97, 118, 101, 61, 48, 48, 68, 50]⟩ : ByteArray)] from rfl) (Reps.one (show Kd.M Kd.string _ _ _ (⟨#[79, 97, 99, 117, 116, 101, 61, 48, 48, 68, 51, 32, 79, 99, 105, 114, 99, 117, 109, 102, 108, 101, 120, 61, 48, 48, 68, 52, 32, 79, 116, 105, 108, 100, 101, 61, 48, 48, 68, 53, 32, 79, 100, 105, 101, 114, 101, 115, 105, 115, 61, 48, 48, 68, 54, 32, 109, 117, 108, 116, 105, 112, 108, 121, 61, 48, 48, 68, 55, 32, 79, 115, 108, 97, 115, 104, 61, 48, 48, 68, 56]⟩ : ByteArray) [.string (⟨#[79, 97, 99, 117, 116, 101, 61, 48, 48, 68, 51, 32, 79, 99, 105, 114, 99, 117, 109, 102, 108, 101, 120, 61, 48, 48, 68, 52, 32, 79, 116, 105, 108, 100, 101, 61, 48, 48, 68, 53, 32, 79, 100, 105, 101, 114, 101, 115, 105, 115, 61, 48, 48, 68, 54, 32, 109, 117, 108, 116, 105, 112, 108, 121, 61, 48, 48, 68, 55, 32, 79, 115, 108, 97, 115, 104, 61, 48, 48, 68, 56]⟩ : ByteArray)] from rfl) (Reps.one (show Kd.M Kd.string _ _ _ (⟨#[85, 103, 114, 97, 118, 101, 61, 48, 48, 68, 57, 32, 85, 97, 99, 117, 116, 101, 61, 48, 48, 68, 65, 32, 85, 99, 105, 114, 99, 117, 109, 102, 108, 101, 120, 61, 48, 48, 68, 66, 32, 85, 100, 105, 101, 114, 101, 115, 105, 115, 61, 48, 48, 68, 67, 32, 89, 97, 99, 117, 116, 101, 61, 48, 48, 68, 68, 32, 84, 104, 111, 114, 110, 61, 48, 48, 68, 69]⟩ : ByteArray) [.string (⟨#[85, 103, 114, 97, 118, 101, 61, 48, 48, 68, 57, 32, 85, 97, 99, 117, 116, 101, 61, 48, 48, 68, 65, 32, 85, 99, 105, 114, 99, 117, 109, 102, 108, 101, 120, 61, 48, 48, 68, 66, 32, 85, 100, 105, 101, 114, 101, 115, 105, 115, 61, 48, 48, 68, 67, 32, 89, 97, 99, 117, 116, 101, 61, 48, 48, 68, 68, 32, 84, 104, 111, 114, 110, 61, 48, 48, 68, 69]⟩ : ByteArray)] from rfl) (Reps.one (show Kd.M Kd.string _ _ _ (⟨#[103, 101, 114, 109, 97, 110, 100, 98, 108, 115, 61, 48, 48, 68, 70, 32, 97, 103, 114, 97, 118, 101, 61, 48, 48, 69, 48, 32, 97, 97, 99, 117, 116, 101, 61, 48, 48, 69, 49, 32, 97, 99, 105, 114, 99, 117, 109, 102, 108, 101, 120, 61, 48, 48, 69, 50, 32, 97, 116, 105, 108, 100, 101, 61, 48, 48, 69, 51, 32, 97, 100, 105, 101, 114, 101, 115, 105, 115, 61, 48, 48, 69, 52]⟩ : ByteArray) [.string (⟨#[103, 101, 114, 109, 97, 110, 100, 98, 108, 115, 61, 48, 48, 68, 70, 32, 97, 103, 114, 97, 118, 101, 61, 48, 48, 69, 48, 32, 97, 97, 99, 117, 116, 101, 61, 48, 48, 69, 49, 32, 97, 99, 105, 114, 99, 117, 109, 102, 108, 101, 120, 61, 48, 48, 69, 50, 32, 97, 116, 105, 108, 100, 101, 61, 48, 48, 69, 51, 32, 97, 100, 105, 101, 114, 101, 115, 105, 115, 61, 48, 48, 69, 52]⟩ : ByteArray)] from rfl) (Reps.one (show Kd.M Kd.string _ _ _ (⟨#[97, 114, 105, 110, 103, 61, 48, 48, 69, 53, 32, 97, 101, 61, 48, 48, 69, 54, 32, 99, 99, 101, 100, 105, 108, 108, 97, 61, 48, 48, 69, 55, 32, 101, 103, 114, 97, 118, 101, 61, 48, 48, 69, 56, 32, 101, 97, 99, 117, 116, 101, 61, 48, 48, 69, 57, 32, 101, 99, 105, 114, 99, 117, 109, 102, 108, 101, 120, 61, 48, 48, 69, 65]⟩ : ByteArray) [.string (⟨#[97, 114, 105, 110, 103, 61, 48, 48, 69, 53, 32, 97, 101, 61, 48, 48, 69, 54, 32, 99, 99, 101, 100, 105, 108, 108, 97, 61, 48, 48, 69, 55, 32, 101, 103, 114, 97, 118, 101, 61, 48, 48, 69, 56, 32, 101, 97, 99, 117, 116, 101, 61, 48, 48, 69, 57, 32, 101, 99, 105, 114, 99, 117, 109, 102, 108, 101, 120, 61, 48, 48, 69, 65]⟩ : ByteArray)] from rfl) (Reps.one (show Kd.M Kd.string _ _ _ (⟨#[101, 100, 105, 101, 114, 101, 115, 105, 115, 61, 48, 48, 69, 66, 32, 105, 103, 114, 97, 118, 101, 61, 48, 48, 69, 67, 32, 105, 97, 99, 117, 116, 101, 61, 48, 48, 69, 68, 32, 105, 99, 105, 114, 99, 117, 109, 102, 108, 101, 120, 61, 48, 48, 69, 69, 32, 105, 100, 105, 101, 114, 101, 115, 105, 115, 61, 48, 48, 69, 70, 32, 101, 116, 104, 61, 48, 48, 70, 48]⟩ : ByteArray) [.string (⟨#[101, 100, 105, 101, 114, 101, 115, 105, 115, 61, 48, 48, 69, 66, 32, 105, 103, 114, 97, 118, 101, 61, 48, 48, 69, 67, 32, 105, 97, 99, 117, 116, 101, 61, 48, 48, 69, 68, 32, 105, 99, 105, 114, 99, 117, 109, 102, 108, 101, 120, 61, 48, 48, 69, 69, 32, 105, 100, 105, 101, 114, 101, 115, 105, 115, 61, 48, 48, 69, 70, 32, 101, 116, 104, 61, 48, 48, 70, 48]⟩ : ByteArray)] from rfl) (Reps.one (show Kd.M Kd.string _ _ _ (⟨#[110, 116, 105, 108, 100, 101, 61, 48, 48, 70, 49, 32, 111, 103, 114, 97, 118, 101, 61, 48, 48, 70, 50, 32, 111, 97, 99, 117, 116, 101, 61, 48, 48, 70, 51, 32, 111, 99, 105, 114, 99, 117, 109, 102, 108, 101, 120, 61, 48, 48, 70, 52, 32, 111, 116, 105, 108, 100, 101, 61, 48, 48, 70, 53, 32, 111, 100, 105, 101, 114, 101, 115, 105, 115, 61, 48, 48, 70, 54]⟩ : ByteArray) [.string (⟨#[110, 116, 105, 108, 100, 101, 61, 48, 48, 70, 49, 32, 111, 103, 114, 97, 118, 101, 61, 48, 48, 70, 50, 32, 111, 97, 99, 117, 116, 101, 61, 48, 48, 70, 51, 32, 111, 99, 105, 114, 99, 117, 109, 102, 108, 101, 120, 61, 48, 48, 70, 52, 32, 111, 116, 105, 108, 100, 101, 61, 48, 48, 70, 53, 32, 111, 100, 105, 101, 114, 101, 115, 105, 115, 61, 48, 48, 70, 54]⟩ : ByteArray)] from rfl) (Reps.none _ _)))))))))))))))))))))))))))))))); intro v110 w1 ho2 hb hg_ hnew_; clear hg_ hnew_; (first | rw [← Ny109.out] at ho2 | (simp only [Int.reduceToNat] at ho2; rw [← Ny109.out] at ho2)); have n0_ := Aside0.mk (Kd.R_lower ho2 (below_size (by repeat (first | (with_reducible first | exact HB.out | apply below_alloc | apply pw_below_drewN | apply below_drew1) | exact HB.out)))); have n1_ := Aside0.mk (below_step (by repeat (first | (with_reducible first | exact HB.out | apply below_alloc | apply pw_below_drewN | apply below_drew1) | exact HB.out)) hb); clear HB; have HO111 := n0_; have HB := n1_; clear n0_ n1_; clear hb ho2))
  go_ret
  exact ⟨_, by first | rfl | (simp [errW_none, errW_some] <;> rfl) | (simp [*, errW_none, errW_some] <;> rfl), by (with_reducible repeat (first | apply Kd.R_alloc | apply Kd.R_drewN | apply Kd.R_drew)); exact HO111.out, by repeat (first | (with_reducible first | exact HB.out | apply below_alloc | apply pw_below_drewN | apply below_drew1) | exact HB.out)⟩
end Go.Proofs.YtniehnkiicliaaaDoor.M
end
section
/- Laid by this session's program hbprint.py out of the translation: the function hornbook/glyph.part2 and its contract. -/
namespace Go.Proofs.YtniehnkiicliaaaDoor.M
open Go.RowKit Go.Proofs.YtniehnkiicliaaaDoorW.PrintWords Go.Proofs.YtniehnkiicliaaaDoorW.PrintLast Go.Proofs.YtniehnkiicliaaaDoorW.PrintMore
attribute [local go_sem] max2_int min2_int max_two min_two max_three min_three max_four min_four
set_option linter.unusedVariables false
set_option linter.unusedSimpArgs false
def glyph_part2.f  : Option (List ByteArray) := some (([(⟨#[100, 105, 118, 105, 100, 101, 61, 48, 48, 70, 55, 32, 111, 115, 108, 97, 115, 104, 61, 48, 48, 70, 56, 32, 117, 103, 114, 97, 118, 101, 61, 48, 48, 70, 57, 32, 117, 97, 99, 117, 116, 101, 61, 48, 48, 70, 65, 32, 117, 99, 105, 114, 99, 117, 109, 102, 108, 101, 120, 61, 48, 48, 70, 66, 32, 117, 100, 105, 101, 114, 101, 115, 105, 115, 61, 48, 48, 70, 67]⟩ : ByteArray), (⟨#[121, 97, 99, 117, 116, 101, 61, 48, 48, 70, 68, 32, 116, 104, 111, 114, 110, 61, 48, 48, 70, 69, 32, 121, 100, 105, 101, 114, 101, 115, 105, 115, 61, 48, 48, 70, 70, 32, 69, 117, 114, 111, 61, 50, 48, 65, 67, 32, 113, 117, 111, 116, 101, 115, 105, 110, 103, 108, 98, 97, 115, 101, 61, 50, 48, 49, 65, 32, 102, 108, 111, 114, 105, 110, 61, 48, 49, 57, 50]⟩ : ByteArray), (⟨#[113, 117, 111, 116, 101, 100, 98, 108, 98, 97, 115, 101, 61, 50, 48, 49, 69, 32, 101, 108, 108, 105, 112, 115, 105, 115, 61, 50, 48, 50, 54, 32, 100, 97, 103, 103, 101, 114, 61, 50, 48, 50, 48, 32, 100, 97, 103, 103, 101, 114, 100, 98, 108, 61, 50, 48, 50, 49, 32, 99, 105, 114, 99, 117, 109, 102, 108, 101, 120, 61, 48, 50, 67, 54, 32, 112, 101, 114, 116, 104, 111, 117, 115, 97, 110, 100, 61, 50, 48, 51, 48]⟩ : ByteArray), (⟨#[83, 99, 97, 114, 111, 110, 61, 48, 49, 54, 48, 32, 103, 117, 105, 108, 115, 105, 110, 103, 108, 108, 101, 102, 116, 61, 50, 48, 51, 57, 32, 79, 69, 61, 48, 49, 53, 50, 32, 90, 99, 97, 114, 111, 110, 61, 48, 49, 55, 68, 32, 113, 117, 111, 116, 101, 108, 101, 102, 116, 61, 50, 48, 49, 56, 32, 113, 117, 111, 116, 101, 114, 105, 103, 104, 116, 61, 50, 48, 49, 57]⟩ : ByteArray), (⟨#[113, 117, 111, 116, 101, 100, 98, 108, 108, 101, 102, 116, 61, 50, 48, 49, 67, 32, 113, 117, 111, 116, 101, 100, 98, 108, 114, 105, 103, 104, 116, 61, 50, 48, 49, 68, 32, 98, 117, 108, 108, 101, 116, 61, 50, 48, 50, 50, 32, 101, 110, 100, 97, 115, 104, 61, 50, 48, 49, 51, 32, 101, 109, 100, 97, 115, 104, 61, 50, 48, 49, 52, 32, 116, 105, 108, 100, 101, 61, 48, 50, 68, 67]⟩ : ByteArray), (⟨#[116, 114, 97, 100, 101, 109, 97, 114, 107, 61, 50, 49, 50, 50, 32, 115, 99, 97, 114, 111, 110, 61, 48, 49, 54, 49, 32, 103, 117, 105, 108, 115, 105, 110, 103, 108, 114, 105, 103, 104, 116, 61, 50, 48, 51, 65, 32, 111, 101, 61, 48, 49, 53, 51, 32, 122, 99, 97, 114, 111, 110, 61, 48, 49, 55, 69, 32, 89, 100, 105, 101, 114, 101, 115, 105, 115, 61, 48, 49, 55, 56]⟩ : ByteArray), (⟨#[102, 105, 61, 70, 66, 48, 49, 32, 102, 108, 61, 70, 66, 48, 50, 32, 102, 114, 97, 99, 116, 105, 111, 110, 61, 50, 48, 52, 52, 32, 100, 111, 116, 108, 101, 115, 115, 105, 61, 48, 49, 51, 49, 32, 76, 115, 108, 97, 115, 104, 61, 48, 49, 52, 49, 32, 108, 115, 108, 97, 115, 104, 61, 48, 49, 52, 50]⟩ : ByteArray), (⟨#[98, 114, 101, 118, 101, 61, 48, 50, 68, 56, 32, 99, 97, 114, 111, 110, 61, 48, 50, 67, 55, 32, 100, 111, 116, 97, 99, 99, 101, 110, 116, 61, 48, 50, 68, 57, 32, 104, 117, 110, 103, 97, 114, 117, 109, 108, 97, 117, 116, 61, 48, 50, 68, 68, 32, 111, 103, 111, 110, 101, 107, 61, 48, 50, 68, 66, 32, 114, 105, 110, 103, 61, 48, 50, 68, 65]⟩ : ByteArray), (⟨#[109, 105, 110, 117, 115, 61, 50, 50, 49, 50, 32, 110, 111, 116, 101, 113, 117, 97, 108, 61, 50, 50, 54, 48, 32, 105, 110, 102, 105, 110, 105, 116, 121, 61, 50, 50, 49, 69, 32, 108, 101, 115, 115, 101, 113, 117, 97, 108, 61, 50, 50, 54, 52, 32, 103, 114, 101, 97, 116, 101, 114, 101, 113, 117, 97, 108, 61, 50, 50, 54, 53, 32, 112, 97, 114, 116, 105, 97, 108, 100, 105, 102, 102, 61, 50, 50, 48, 50]⟩ : ByteArray), (⟨#[115, 117, 109, 109, 97, 116, 105, 111, 110, 61, 50, 50, 49, 49, 32, 112, 114, 111, 100, 117, 99, 116, 61, 50, 50, 48, 70, 32, 112, 105, 61, 48, 51, 67, 48, 32, 105, 110, 116, 101, 103, 114, 97, 108, 61, 50, 50, 50, 66, 32, 79, 109, 101, 103, 97, 61, 50, 49, 50, 54, 32, 114, 97, 100, 105, 99, 97, 108, 61, 50, 50, 49, 65]⟩ : ByteArray), (⟨#[97, 112, 112, 114, 111, 120, 101, 113, 117, 97, 108, 61, 50, 50, 52, 56, 32, 68, 101, 108, 116, 97, 61, 50, 50, 48, 54, 32, 108, 111, 122, 101, 110, 103, 101, 61, 50, 53, 67, 65, 32, 97, 112, 112, 108, 101, 61, 70, 56, 70, 70, 32, 65, 108, 112, 104, 97, 61, 48, 51, 57, 49, 32, 66, 101, 116, 97, 61, 48, 51, 57, 50]⟩ : ByteArray), (⟨#[71, 97, 109, 109, 97, 61, 48, 51, 57, 51, 32, 69, 112, 115, 105, 108, 111, 110, 61, 48, 51, 57, 53, 32, 90, 101, 116, 97, 61, 48, 51, 57, 54, 32, 69, 116, 97, 61, 48, 51, 57, 55, 32, 84, 104, 101, 116, 97, 61, 48, 51, 57, 56, 32, 73, 111, 116, 97, 61, 48, 51, 57, 57]⟩ : ByteArray), (⟨#[75, 97, 112, 112, 97, 61, 48, 51, 57, 65, 32, 76, 97, 109, 98, 100, 97, 61, 48, 51, 57, 66, 32, 77, 117, 61, 48, 51, 57, 67, 32, 78, 117, 61, 48, 51, 57, 68, 32, 88, 105, 61, 48, 51, 57, 69, 32, 79, 109, 105, 99, 114, 111, 110, 61, 48, 51, 57, 70]⟩ : ByteArray), (⟨#[80, 105, 61, 48, 51, 65, 48, 32, 82, 104, 111, 61, 48, 51, 65, 49, 32, 83, 105, 103, 109, 97, 61, 48, 51, 65, 51, 32, 84, 97, 117, 61, 48, 51, 65, 52, 32, 85, 112, 115, 105, 108, 111, 110, 61, 48, 51, 65, 53, 32, 80, 104, 105, 61, 48, 51, 65, 54]⟩ : ByteArray), (⟨#[67, 104, 105, 61, 48, 51, 65, 55, 32, 80, 115, 105, 61, 48, 51, 65, 56, 32, 97, 108, 112, 104, 97, 61, 48, 51, 66, 49, 32, 98, 101, 116, 97, 61, 48, 51, 66, 50, 32, 103, 97, 109, 109, 97, 61, 48, 51, 66, 51, 32, 100, 101, 108, 116, 97, 61, 48, 51, 66, 52]⟩ : ByteArray), (⟨#[101, 112, 115, 105, 108, 111, 110, 61, 48, 51, 66, 53, 32, 122, 101, 116, 97, 61, 48, 51, 66, 54, 32, 101, 116, 97, 61, 48, 51, 66, 55, 32, 116, 104, 101, 116, 97, 61, 48, 51, 66, 56, 32, 105, 111, 116, 97, 61, 48, 51, 66, 57, 32, 107, 97, 112, 112, 97, 61, 48, 51, 66, 65]⟩ : ByteArray), (⟨#[108, 97, 109, 98, 100, 97, 61, 48, 51, 66, 66, 32, 110, 117, 61, 48, 51, 66, 68, 32, 120, 105, 61, 48, 51, 66, 69, 32, 111, 109, 105, 99, 114, 111, 110, 61, 48, 51, 66, 70, 32, 114, 104, 111, 61, 48, 51, 67, 49, 32, 115, 105, 103, 109, 97, 49, 61, 48, 51, 67, 50]⟩ : ByteArray), (⟨#[115, 105, 103, 109, 97, 61, 48, 51, 67, 51, 32, 116, 97, 117, 61, 48, 51, 67, 52, 32, 117, 112, 115, 105, 108, 111, 110, 61, 48, 51, 67, 53, 32, 112, 104, 105, 61, 48, 51, 67, 54, 32, 99, 104, 105, 61, 48, 51, 67, 55, 32, 112, 115, 105, 61, 48, 51, 67, 56]⟩ : ByteArray), (⟨#[111, 109, 101, 103, 97, 61, 48, 51, 67, 57, 32, 116, 104, 101, 116, 97, 49, 61, 48, 51, 68, 49, 32, 85, 112, 115, 105, 108, 111, 110, 49, 61, 48, 51, 68, 50, 32, 112, 104, 105, 49, 61, 48, 51, 68, 53, 32, 111, 109, 101, 103, 97, 49, 61, 48, 51, 68, 54, 32, 117, 110, 105, 118, 101, 114, 115, 97, 108, 61, 50, 50, 48, 48]⟩ : ByteArray), (⟨#[101, 120, 105, 115, 116, 101, 110, 116, 105, 97, 108, 61, 50, 50, 48, 51, 32, 115, 117, 99, 104, 116, 104, 97, 116, 61, 50, 50, 48, 66, 32, 97, 115, 116, 101, 114, 105, 115, 107, 109, 97, 116, 104, 61, 50, 50, 49, 55, 32, 99, 111, 110, 103, 114, 117, 101, 110, 116, 61, 50, 50, 52, 53, 32, 116, 104, 101, 114, 101, 102, 111, 114, 101, 61, 50, 50, 51, 52, 32, 112, 101, 114, 112, 101, 110, 100, 105, 99, 117, 108, 97, 114, 61, 50, 50, 65, 53]⟩ : ByteArray), (⟨#[115, 105, 109, 105, 108, 97, 114, 61, 50, 50, 51, 67, 32, 109, 105, 110, 117, 116, 101, 61, 50, 48, 51, 50, 32, 99, 108, 117, 98, 61, 50, 54, 54, 51, 32, 100, 105, 97, 109, 111, 110, 100, 61, 50, 54, 54, 54, 32, 104, 101, 97, 114, 116, 61, 50, 54, 54, 53, 32, 115, 112, 97, 100, 101, 61, 50, 54, 54, 48]⟩ : ByteArray), (⟨#[97, 114, 114, 111, 119, 98, 111, 116, 104, 61, 50, 49, 57, 52, 32, 97, 114, 114, 111, 119, 108, 101, 102, 116, 61, 50, 49, 57, 48, 32, 97, 114, 114, 111, 119, 117, 112, 61, 50, 49, 57, 49, 32, 97, 114, 114, 111, 119, 114, 105, 103, 104, 116, 61, 50, 49, 57, 50, 32, 97, 114, 114, 111, 119, 100, 111, 119, 110, 61, 50, 49, 57, 51, 32, 115, 101, 99, 111, 110, 100, 61, 50, 48, 51, 51]⟩ : ByteArray), (⟨#[112, 114, 111, 112, 111, 114, 116, 105, 111, 110, 97, 108, 61, 50, 50, 49, 68, 32, 101, 113, 117, 105, 118, 97, 108, 101, 110, 99, 101, 61, 50, 50, 54, 49, 32, 97, 108, 101, 112, 104, 61, 50, 49, 51, 53, 32, 73, 102, 114, 97, 107, 116, 117, 114, 61, 50, 49, 49, 49, 32, 82, 102, 114, 97, 107, 116, 117, 114, 61, 50, 49, 49, 67, 32, 119, 101, 105, 101, 114, 115, 116, 114, 97, 115, 115, 61, 50, 49, 49, 56]⟩ : ByteArray), (⟨#[99, 105, 114, 99, 108, 101, 109, 117, 108, 116, 105, 112, 108, 121, 61, 50, 50, 57, 55, 32, 99, 105, 114, 99, 108, 101, 112, 108, 117, 115, 61, 50, 50, 57, 53, 32, 101, 109, 112, 116, 121, 115, 101, 116, 61, 50, 50, 48, 53, 32, 105, 110, 116, 101, 114, 115, 101, 99, 116, 105, 111, 110, 61, 50, 50, 50, 57, 32, 117, 110, 105, 111, 110, 61, 50, 50, 50, 65, 32, 112, 114, 111, 112, 101, 114, 115, 117, 112, 101, 114, 115, 101, 116, 61, 50, 50, 56, 51]⟩ : ByteArray), (⟨#[114, 101, 102, 108, 101, 120, 115, 117, 112, 101, 114, 115, 101, 116, 61, 50, 50, 56, 55, 32, 110, 111, 116, 115, 117, 98, 115, 101, 116, 61, 50, 50, 56, 52, 32, 112, 114, 111, 112, 101, 114, 115, 117, 98, 115, 101, 116, 61, 50, 50, 56, 50, 32, 114, 101, 102, 108, 101, 120, 115, 117, 98, 115, 101, 116, 61, 50, 50, 56, 54, 32, 101, 108, 101, 109, 101, 110, 116, 61, 50, 50, 48, 56, 32, 110, 111, 116, 101, 108, 101, 109, 101, 110, 116, 61, 50, 50, 48, 57]⟩ : ByteArray), (⟨#[97, 110, 103, 108, 101, 61, 50, 50, 50, 48, 32, 103, 114, 97, 100, 105, 101, 110, 116, 61, 50, 50, 48, 55, 32, 100, 111, 116, 109, 97, 116, 104, 61, 50, 50, 67, 53, 32, 108, 111, 103, 105, 99, 97, 108, 97, 110, 100, 61, 50, 50, 50, 55, 32, 108, 111, 103, 105, 99, 97, 108, 111, 114, 61, 50, 50, 50, 56, 32, 97, 114, 114, 111, 119, 100, 98, 108, 98, 111, 116, 104, 61, 50, 49, 68, 52]⟩ : ByteArray), (⟨#[97, 114, 114, 111, 119, 100, 98, 108, 108, 101, 102, 116, 61, 50, 49, 68, 48, 32, 97, 114, 114, 111, 119, 100, 98, 108, 117, 112, 61, 50, 49, 68, 49, 32, 97, 114, 114, 111, 119, 100, 98, 108, 114, 105, 103, 104, 116, 61, 50, 49, 68, 50, 32, 97, 114, 114, 111, 119, 100, 98, 108, 100, 111, 119, 110, 61, 50, 49, 68, 51, 32, 97, 110, 103, 108, 101, 108, 101, 102, 116, 61, 50, 51, 50, 57, 32, 97, 110, 103, 108, 101, 114, 105, 103, 104, 116, 61, 50, 51, 50, 65]⟩ : ByteArray), (⟨#[100, 97, 108, 101, 116, 104, 97, 116, 97, 102, 112, 97, 116, 97, 104, 61, 48, 53, 68, 51, 44, 48, 53, 66, 50, 32, 102, 102, 61, 70, 66, 48, 48, 32, 102, 102, 105, 61, 70, 66, 48, 51, 32, 102, 102, 108, 61, 70, 66, 48, 52, 32, 65, 109, 97, 99, 114, 111, 110, 61, 48, 49, 48, 48, 32, 97, 109, 97, 99, 114, 111, 110, 61, 48, 49, 48, 49]⟩ : ByteArray), (⟨#[65, 98, 114, 101, 118, 101, 61, 48, 49, 48, 50, 32, 97, 98, 114, 101, 118, 101, 61, 48, 49, 48, 51, 32, 76, 99, 111, 109, 109, 97, 97, 99, 99, 101, 110, 116, 61, 48, 49, 51, 66]⟩ : ByteArray)] : List ByteArray))
set_option maxHeartbeats 8000000 in
set_option maxRecDepth 100000 in
theorem glyph_part2.calls  (r : List ByteArray) (w : World) (h : glyph_part2.f  = some r) :
    Calls Tryd.prog 59 #[] w fun e w' => ∃ v0_ : Value, e = .returned (v0_) ∧ Kd.R Kd.string 9 w' w.heap.size (fun _ => True) v0_ r ∧ Below w.heap.size w w' := by
  have HB := Aside0.mk (Below.refl w.heap.size w)
  have H : (some (([(⟨#[100, 105, 118, 105, 100, 101, 61, 48, 48, 70, 55, 32, 111, 115, 108, 97, 115, 104, 61, 48, 48, 70, 56, 32, 117, 103, 114, 97, 118, 101, 61, 48, 48, 70, 57, 32, 117, 97, 99, 117, 116, 101, 61, 48, 48, 70, 65, 32, 117, 99, 105, 114, 99, 117, 109, 102, 108, 101, 120, 61, 48, 48, 70, 66, 32, 117, 100, 105, 101, 114, 101, 115, 105, 115, 61, 48, 48, 70, 67]⟩ : ByteArray), (⟨#[121, 97, 99, 117, 116, 101, 61, 48, 48, 70, 68, 32, 116, 104, 111, 114, 110, 61, 48, 48, 70, 69, 32, 121, 100, 105, 101, 114, 101, 115, 105, 115, 61, 48, 48, 70, 70, 32, 69, 117, 114, 111, 61, 50, 48, 65, 67, 32, 113, 117, 111, 116, 101, 115, 105, 110, 103, 108, 98, 97, 115, 101, 61, 50, 48, 49, 65, 32, 102, 108, 111, 114, 105, 110, 61, 48, 49, 57, 50]⟩ : ByteArray), (⟨#[113, 117, 111, 116, 101, 100, 98, 108, 98, 97, 115, 101, 61, 50, 48, 49, 69, 32, 101, 108, 108, 105, 112, 115, 105, 115, 61, 50, 48, 50, 54, 32, 100, 97, 103, 103, 101, 114, 61, 50, 48, 50, 48, 32, 100, 97, 103, 103, 101, 114, 100, 98, 108, 61, 50, 48, 50, 49, 32, 99, 105, 114, 99, 117, 109, 102, 108, 101, 120, 61, 48, 50, 67, 54, 32, 112, 101, 114, 116, 104, 111, 117, 115, 97, 110, 100, 61, 50, 48, 51, 48]⟩ : ByteArray), (⟨#[83, 99, 97, 114, 111, 110, 61, 48, 49, 54, 48, 32, 103, 117, 105, 108, 115, 105, 110, 103, 108, 108, 101, 102, 116, 61, 50, 48, 51, 57, 32, 79, 69, 61, 48, 49, 53, 50, 32, 90, 99, 97, 114, 111, 110, 61, 48, 49, 55, 68, 32, 113, 117, 111, 116, 101, 108, 101, 102, 116, 61, 50, 48, 49, 56, 32, 113, 117, 111, 116, 101, 114, 105, 103, 104, 116, 61, 50, 48, 49, 57]⟩ : ByteArray), (⟨#[113, 117, 111, 116, 101, 100, 98, 108, 108, 101, 102, 116, 61, 50, 48, 49, 67, 32, 113, 117, 111, 116, 101, 100, 98, 108, 114, 105, 103, 104, 116, 61, 50, 48, 49, 68, 32, 98, 117, 108, 108, 101, 116, 61, 50, 48, 50, 50, 32, 101, 110, 100, 97, 115, 104, 61, 50, 48, 49, 51, 32, 101, 109, 100, 97, 115, 104, 61, 50, 48, 49, 52, 32, 116, 105, 108, 100, 101, 61, 48, 50, 68, 67]⟩ : ByteArray), (⟨#[116, 114, 97, 100, 101, 109, 97, 114, 107, 61, 50, 49, 50, 50, 32, 115, 99, 97, 114, 111, 110, 61, 48, 49, 54, 49, 32, 103, 117, 105, 108, 115, 105, 110, 103, 108, 114, 105, 103, 104, 116, 61, 50, 48, 51, 65, 32, 111, 101, 61, 48, 49, 53, 51, 32, 122, 99, 97, 114, 111, 110, 61, 48, 49, 55, 69, 32, 89, 100, 105, 101, 114, 101, 115, 105, 115, 61, 48, 49, 55, 56]⟩ : ByteArray), (⟨#[102, 105, 61, 70, 66, 48, 49, 32, 102, 108, 61, 70, 66, 48, 50, 32, 102, 114, 97, 99, 116, 105, 111, 110, 61, 50, 48, 52, 52, 32, 100, 111, 116, 108, 101, 115, 115, 105, 61, 48, 49, 51, 49, 32, 76, 115, 108, 97, 115, 104, 61, 48, 49, 52, 49, 32, 108, 115, 108, 97, 115, 104, 61, 48, 49, 52, 50]⟩ : ByteArray), (⟨#[98, 114, 101, 118, 101, 61, 48, 50, 68, 56, 32, 99, 97, 114, 111, 110, 61, 48, 50, 67, 55, 32, 100, 111, 116, 97, 99, 99, 101, 110, 116, 61, 48, 50, 68, 57, 32, 104, 117, 110, 103, 97, 114, 117, 109, 108, 97, 117, 116, 61, 48, 50, 68, 68, 32, 111, 103, 111, 110, 101, 107, 61, 48, 50, 68, 66, 32, 114, 105, 110, 103, 61, 48, 50, 68, 65]⟩ : ByteArray), (⟨#[109, 105, 110, 117, 115, 61, 50, 50, 49, 50, 32, 110, 111, 116, 101, 113, 117, 97, 108, 61, 50, 50, 54, 48, 32, 105, 110, 102, 105, 110, 105, 116, 121, 61, 50, 50, 49, 69, 32, 108, 101, 115, 115, 101, 113, 117, 97, 108, 61, 50, 50, 54, 52, 32, 103, 114, 101, 97, 116, 101, 114, 101, 113, 117, 97, 108, 61, 50, 50, 54, 53, 32, 112, 97, 114, 116, 105, 97, 108, 100, 105, 102, 102, 61, 50, 50, 48, 50]⟩ : ByteArray), (⟨#[115, 117, 109, 109, 97, 116, 105, 111, 110, 61, 50, 50, 49, 49, 32, 112, 114, 111, 100, 117, 99, 116, 61, 50, 50, 48, 70, 32, 112, 105, 61, 48, 51, 67, 48, 32, 105, 110, 116, 101, 103, 114, 97, 108, 61, 50, 50, 50, 66, 32, 79, 109, 101, 103, 97, 61, 50, 49, 50, 54, 32, 114, 97, 100, 105, 99, 97, 108, 61, 50, 50, 49, 65]⟩ : ByteArray), (⟨#[97, 112, 112, 114, 111, 120, 101, 113, 117, 97, 108, 61, 50, 50, 52, 56, 32, 68, 101, 108, 116, 97, 61, 50, 50, 48, 54, 32, 108, 111, 122, 101, 110, 103, 101, 61, 50, 53, 67, 65, 32, 97, 112, 112, 108, 101, 61, 70, 56, 70, 70, 32, 65, 108, 112, 104, 97, 61, 48, 51, 57, 49, 32, 66, 101, 116, 97, 61, 48, 51, 57, 50]⟩ : ByteArray), (⟨#[71, 97, 109, 109, 97, 61, 48, 51, 57, 51, 32, 69, 112, 115, 105, 108, 111, 110, 61, 48, 51, 57, 53, 32, 90, 101, 116, 97, 61, 48, 51, 57, 54, 32, 69, 116, 97, 61, 48, 51, 57, 55, 32, 84, 104, 101, 116, 97, 61, 48, 51, 57, 56, 32, 73, 111, 116, 97, 61, 48, 51, 57, 57]⟩ : ByteArray), (⟨#[75, 97, 112, 112, 97, 61, 48, 51, 57, 65, 32, 76, 97, 109, 98, 100, 97, 61, 48, 51, 57, 66, 32, 77, 117, 61, 48, 51, 57, 67, 32, 78, 117, 61, 48, 51, 57, 68, 32, 88, 105, 61, 48, 51, 57, 69, 32, 79, 109, 105, 99, 114, 111, 110, 61, 48, 51, 57, 70]⟩ : ByteArray), (⟨#[80, 105, 61, 48, 51, 65, 48, 32, 82, 104, 111, 61, 48, 51, 65, 49, 32, 83, 105, 103, 109, 97, 61, 48, 51, 65, 51, 32, 84, 97, 117, 61, 48, 51, 65, 52, 32, 85, 112, 115, 105, 108, 111, 110, 61, 48, 51, 65, 53, 32, 80, 104, 105, 61, 48, 51, 65, 54]⟩ : ByteArray), (⟨#[67, 104, 105, 61, 48, 51, 65, 55, 32, 80, 115, 105, 61, 48, 51, 65, 56, 32, 97, 108, 112, 104, 97, 61, 48, 51, 66, 49, 32, 98, 101, 116, 97, 61, 48, 51, 66, 50, 32, 103, 97, 109, 109, 97, 61, 48, 51, 66, 51, 32, 100, 101, 108, 116, 97, 61, 48, 51, 66, 52]⟩ : ByteArray), (⟨#[101, 112, 115, 105, 108, 111, 110, 61, 48, 51, 66, 53, 32, 122, 101, 116, 97, 61, 48, 51, 66, 54, 32, 101, 116, 97, 61, 48, 51, 66, 55, 32, 116, 104, 101, 116, 97, 61, 48, 51, 66, 56, 32, 105, 111, 116, 97, 61, 48, 51, 66, 57, 32, 107, 97, 112, 112, 97, 61, 48, 51, 66, 65]⟩ : ByteArray), (⟨#[108, 97, 109, 98, 100, 97, 61, 48, 51, 66, 66, 32, 110, 117, 61, 48, 51, 66, 68, 32, 120, 105, 61, 48, 51, 66, 69, 32, 111, 109, 105, 99, 114, 111, 110, 61, 48, 51, 66, 70, 32, 114, 104, 111, 61, 48, 51, 67, 49, 32, 115, 105, 103, 109, 97, 49, 61, 48, 51, 67, 50]⟩ : ByteArray), (⟨#[115, 105, 103, 109, 97, 61, 48, 51, 67, 51, 32, 116, 97, 117, 61, 48, 51, 67, 52, 32, 117, 112, 115, 105, 108, 111, 110, 61, 48, 51, 67, 53, 32, 112, 104, 105, 61, 48, 51, 67, 54, 32, 99, 104, 105, 61, 48, 51, 67, 55, 32, 112, 115, 105, 61, 48, 51, 67, 56]⟩ : ByteArray), (⟨#[111, 109, 101, 103, 97, 61, 48, 51, 67, 57, 32, 116, 104, 101, 116, 97, 49, 61, 48, 51, 68, 49, 32, 85, 112, 115, 105, 108, 111, 110, 49, 61, 48, 51, 68, 50, 32, 112, 104, 105, 49, 61, 48, 51, 68, 53, 32, 111, 109, 101, 103, 97, 49, 61, 48, 51, 68, 54, 32, 117, 110, 105, 118, 101, 114, 115, 97, 108, 61, 50, 50, 48, 48]⟩ : ByteArray), (⟨#[101, 120, 105, 115, 116, 101, 110, 116, 105, 97, 108, 61, 50, 50, 48, 51, 32, 115, 117, 99, 104, 116, 104, 97, 116, 61, 50, 50, 48, 66, 32, 97, 115, 116, 101, 114, 105, 115, 107, 109, 97, 116, 104, 61, 50, 50, 49, 55, 32, 99, 111, 110, 103, 114, 117, 101, 110, 116, 61, 50, 50, 52, 53, 32, 116, 104, 101, 114, 101, 102, 111, 114, 101, 61, 50, 50, 51, 52, 32, 112, 101, 114, 112, 101, 110, 100, 105, 99, 117, 108, 97, 114, 61, 50, 50, 65, 53]⟩ : ByteArray), (⟨#[115, 105, 109, 105, 108, 97, 114, 61, 50, 50, 51, 67, 32, 109, 105, 110, 117, 116, 101, 61, 50, 48, 51, 50, 32, 99, 108, 117, 98, 61, 50, 54, 54, 51, 32, 100, 105, 97, 109, 111, 110, 100, 61, 50, 54, 54, 54, 32, 104, 101, 97, 114, 116, 61, 50, 54, 54, 53, 32, 115, 112, 97, 100, 101, 61, 50, 54, 54, 48]⟩ : ByteArray), (⟨#[97, 114, 114, 111, 119, 98, 111, 116, 104, 61, 50, 49, 57, 52, 32, 97, 114, 114, 111, 119, 108, 101, 102, 116, 61, 50, 49, 57, 48, 32, 97, 114, 114, 111, 119, 117, 112, 61, 50, 49, 57, 49, 32, 97, 114, 114, 111, 119, 114, 105, 103, 104, 116, 61, 50, 49, 57, 50, 32, 97, 114, 114, 111, 119, 100, 111, 119, 110, 61, 50, 49, 57, 51, 32, 115, 101, 99, 111, 110, 100, 61, 50, 48, 51, 51]⟩ : ByteArray), (⟨#[112, 114, 111, 112, 111, 114, 116, 105, 111, 110, 97, 108, 61, 50, 50, 49, 68, 32, 101, 113, 117, 105, 118, 97, 108, 101, 110, 99, 101, 61, 50, 50, 54, 49, 32, 97, 108, 101, 112, 104, 61, 50, 49, 51, 53, 32, 73, 102, 114, 97, 107, 116, 117, 114, 61, 50, 49, 49, 49, 32, 82, 102, 114, 97, 107, 116, 117, 114, 61, 50, 49, 49, 67, 32, 119, 101, 105, 101, 114, 115, 116, 114, 97, 115, 115, 61, 50, 49, 49, 56]⟩ : ByteArray), (⟨#[99, 105, 114, 99, 108, 101, 109, 117, 108, 116, 105, 112, 108, 121, 61, 50, 50, 57, 55, 32, 99, 105, 114, 99, 108, 101, 112, 108, 117, 115, 61, 50, 50, 57, 53, 32, 101, 109, 112, 116, 121, 115, 101, 116, 61, 50, 50, 48, 53, 32, 105, 110, 116, 101, 114, 115, 101, 99, 116, 105, 111, 110, 61, 50, 50, 50, 57, 32, 117, 110, 105, 111, 110, 61, 50, 50, 50, 65, 32, 112, 114, 111, 112, 101, 114, 115, 117, 112, 101, 114, 115, 101, 116, 61, 50, 50, 56, 51]⟩ : ByteArray), (⟨#[114, 101, 102, 108, 101, 120, 115, 117, 112, 101, 114, 115, 101, 116, 61, 50, 50, 56, 55, 32, 110, 111, 116, 115, 117, 98, 115, 101, 116, 61, 50, 50, 56, 52, 32, 112, 114, 111, 112, 101, 114, 115, 117, 98, 115, 101, 116, 61, 50, 50, 56, 50, 32, 114, 101, 102, 108, 101, 120, 115, 117, 98, 115, 101, 116, 61, 50, 50, 56, 54, 32, 101, 108, 101, 109, 101, 110, 116, 61, 50, 50, 48, 56, 32, 110, 111, 116, 101, 108, 101, 109, 101, 110, 116, 61, 50, 50, 48, 57]⟩ : ByteArray), (⟨#[97, 110, 103, 108, 101, 61, 50, 50, 50, 48, 32, 103, 114, 97, 100, 105, 101, 110, 116, 61, 50, 50, 48, 55, 32, 100, 111, 116, 109, 97, 116, 104, 61, 50, 50, 67, 53, 32, 108, 111, 103, 105, 99, 97, 108, 97, 110, 100, 61, 50, 50, 50, 55, 32, 108, 111, 103, 105, 99, 97, 108, 111, 114, 61, 50, 50, 50, 56, 32, 97, 114, 114, 111, 119, 100, 98, 108, 98, 111, 116, 104, 61, 50, 49, 68, 52]⟩ : ByteArray), (⟨#[97, 114, 114, 111, 119, 100, 98, 108, 108, 101, 102, 116, 61, 50, 49, 68, 48, 32, 97, 114, 114, 111, 119, 100, 98, 108, 117, 112, 61, 50, 49, 68, 49, 32, 97, 114, 114, 111, 119, 100, 98, 108, 114, 105, 103, 104, 116, 61, 50, 49, 68, 50, 32, 97, 114, 114, 111, 119, 100, 98, 108, 100, 111, 119, 110, 61, 50, 49, 68, 51, 32, 97, 110, 103, 108, 101, 108, 101, 102, 116, 61, 50, 51, 50, 57, 32, 97, 110, 103, 108, 101, 114, 105, 103, 104, 116, 61, 50, 51, 50, 65]⟩ : ByteArray), (⟨#[100, 97, 108, 101, 116, 104, 97, 116, 97, 102, 112, 97, 116, 97, 104, 61, 48, 53, 68, 51, 44, 48, 53, 66, 50, 32, 102, 102, 61, 70, 66, 48, 48, 32, 102, 102, 105, 61, 70, 66, 48, 51, 32, 102, 102, 108, 61, 70, 66, 48, 52, 32, 65, 109, 97, 99, 114, 111, 110, 61, 48, 49, 48, 48, 32, 97, 109, 97, 99, 114, 111, 110, 61, 48, 49, 48, 49]⟩ : ByteArray), (⟨#[65, 98, 114, 101, 118, 101, 61, 48, 49, 48, 50, 32, 97, 98, 114, 101, 118, 101, 61, 48, 49, 48, 51, 32, 76, 99, 111, 109, 109, 97, 97, 99, 99, 101, 110, 116, 61, 48, 49, 51, 66]⟩ : ByteArray)] : List ByteArray))) = some r := h
  clear h
  obtain ⟨y112, hy112⟩ : ∃ y_ : List ByteArray, y_ = (([(⟨#[100, 105, 118, 105, 100, 101, 61, 48, 48, 70, 55, 32, 111, 115, 108, 97, 115, 104, 61, 48, 48, 70, 56, 32, 117, 103, 114, 97, 118, 101, 61, 48, 48, 70, 57, 32, 117, 97, 99, 117, 116, 101, 61, 48, 48, 70, 65, 32, 117, 99, 105, 114, 99, 117, 109, 102, 108, 101, 120, 61, 48, 48, 70, 66, 32, 117, 100, 105, 101, 114, 101, 115, 105, 115, 61, 48, 48, 70, 67]⟩ : ByteArray), (⟨#[121, 97, 99, 117, 116, 101, 61, 48, 48, 70, 68, 32, 116, 104, 111, 114, 110, 61, 48, 48, 70, 69, 32, 121, 100, 105, 101, 114, 101, 115, 105, 115, 61, 48, 48, 70, 70, 32, 69, 117, 114, 111, 61, 50, 48, 65, 67, 32, 113, 117, 111, 116, 101, 115, 105, 110, 103, 108, 98, 97, 115, 101, 61, 50, 48, 49, 65, 32, 102, 108, 111, 114, 105, 110, 61, 48, 49, 57, 50]⟩ : ByteArray), (⟨#[113, 117, 111, 116, 101, 100, 98, 108, 98, 97, 115, 101, 61, 50, 48, 49, 69, 32, 101, 108, 108, 105, 112, 115, 105, 115, 61, 50, 48, 50, 54, 32, 100, 97, 103, 103, 101, 114, 61, 50, 48, 50, 48, 32, 100, 97, 103, 103, 101, 114, 100, 98, 108, 61, 50, 48, 50, 49, 32, 99, 105, 114, 99, 117, 109, 102, 108, 101, 120, 61, 48, 50, 67, 54, 32, 112, 101, 114, 116, 104, 111, 117, 115, 97, 110, 100, 61, 50, 48, 51, 48]⟩ : ByteArray), (⟨#[83, 99, 97, 114, 111, 110, 61, 48, 49, 54, 48, 32, 103, 117, 105, 108, 115, 105, 110, 103, 108, 108, 101, 102, 116, 61, 50, 48, 51, 57, 32, 79, 69, 61, 48, 49, 53, 50, 32, 90, 99, 97, 114, 111, 110, 61, 48, 49, 55, 68, 32, 113, 117, 111, 116, 101, 108, 101, 102, 116, 61, 50, 48, 49, 56, 32, 113, 117, 111, 116, 101, 114, 105, 103, 104, 116, 61, 50, 48, 49, 57]⟩ : ByteArray), (⟨#[113, 117, 111, 116, 101, 100, 98, 108, 108, 101, 102, 116, 61, 50, 48, 49, 67, 32, 113, 117, 111, 116, 101, 100, 98, 108, 114, 105, 103, 104, 116, 61, 50, 48, 49, 68, 32, 98, 117, 108, 108, 101, 116, 61, 50, 48, 50, 50, 32, 101, 110, 100, 97, 115, 104, 61, 50, 48, 49, 51, 32, 101, 109, 100, 97, 115, 104, 61, 50, 48, 49, 52, 32, 116, 105, 108, 100, 101, 61, 48, 50, 68, 67]⟩ : ByteArray), (⟨#[116, 114, 97, 100, 101, 109, 97, 114, 107, 61, 50, 49, 50, 50, 32, 115, 99, 97, 114, 111, 110, 61, 48, 49, 54, 49, 32, 103, 117, 105, 108, 115, 105, 110, 103, 108, 114, 105, 103, 104, 116, 61, 50, 48, 51, 65, 32, 111, 101, 61, 48, 49, 53, 51, 32, 122, 99, 97, 114, 111, 110, 61, 48, 49, 55, 69, 32, 89, 100, 105, 101, 114, 101, 115, 105, 115, 61, 48, 49, 55, 56]⟩ : ByteArray), (⟨#[102, 105, 61, 70, 66, 48, 49, 32, 102, 108, 61, 70, 66, 48, 50, 32, 102, 114, 97, 99, 116, 105, 111, 110, 61, 50, 48, 52, 52, 32, 100, 111, 116, 108, 101, 115, 115, 105, 61, 48, 49, 51, 49, 32, 76, 115, 108, 97, 115, 104, 61, 48, 49, 52, 49, 32, 108, 115, 108, 97, 115, 104, 61, 48, 49, 52, 50]⟩ : ByteArray), (⟨#[98, 114, 101, 118, 101, 61, 48, 50, 68, 56, 32, 99, 97, 114, 111, 110, 61, 48, 50, 67, 55, 32, 100, 111, 116, 97, 99, 99, 101, 110, 116, 61, 48, 50, 68, 57, 32, 104, 117, 110, 103, 97, 114, 117, 109, 108, 97, 117, 116, 61, 48, 50, 68, 68, 32, 111, 103, 111, 110, 101, 107, 61, 48, 50, 68, 66, 32, 114, 105, 110, 103, 61, 48, 50, 68, 65]⟩ : ByteArray), (⟨#[109, 105, 110, 117, 115, 61, 50, 50, 49, 50, 32, 110, 111, 116, 101, 113, 117, 97, 108, 61, 50, 50, 54, 48, 32, 105, 110, 102, 105, 110, 105, 116, 121, 61, 50, 50, 49, 69, 32, 108, 101, 115, 115, 101, 113, 117, 97, 108, 61, 50, 50, 54, 52, 32, 103, 114, 101, 97, 116, 101, 114, 101, 113, 117, 97, 108, 61, 50, 50, 54, 53, 32, 112, 97, 114, 116, 105, 97, 108, 100, 105, 102, 102, 61, 50, 50, 48, 50]⟩ : ByteArray), (⟨#[115, 117, 109, 109, 97, 116, 105, 111, 110, 61, 50, 50, 49, 49, 32, 112, 114, 111, 100, 117, 99, 116, 61, 50, 50, 48, 70, 32, 112, 105, 61, 48, 51, 67, 48, 32, 105, 110, 116, 101, 103, 114, 97, 108, 61, 50, 50, 50, 66, 32, 79, 109, 101, 103, 97, 61, 50, 49, 50, 54, 32, 114, 97, 100, 105, 99, 97, 108, 61, 50, 50, 49, 65]⟩ : ByteArray), (⟨#[97, 112, 112, 114, 111, 120, 101, 113, 117, 97, 108, 61, 50, 50, 52, 56, 32, 68, 101, 108, 116, 97, 61, 50, 50, 48, 54, 32, 108, 111, 122, 101, 110, 103, 101, 61, 50, 53, 67, 65, 32, 97, 112, 112, 108, 101, 61, 70, 56, 70, 70, 32, 65, 108, 112, 104, 97, 61, 48, 51, 57, 49, 32, 66, 101, 116, 97, 61, 48, 51, 57, 50]⟩ : ByteArray), (⟨#[71, 97, 109, 109, 97, 61, 48, 51, 57, 51, 32, 69, 112, 115, 105, 108, 111, 110, 61, 48, 51, 57, 53, 32, 90, 101, 116, 97, 61, 48, 51, 57, 54, 32, 69, 116, 97, 61, 48, 51, 57, 55, 32, 84, 104, 101, 116, 97, 61, 48, 51, 57, 56, 32, 73, 111, 116, 97, 61, 48, 51, 57, 57]⟩ : ByteArray), (⟨#[75, 97, 112, 112, 97, 61, 48, 51, 57, 65, 32, 76, 97, 109, 98, 100, 97, 61, 48, 51, 57, 66, 32, 77, 117, 61, 48, 51, 57, 67, 32, 78, 117, 61, 48, 51, 57, 68, 32, 88, 105, 61, 48, 51, 57, 69, 32, 79, 109, 105, 99, 114, 111, 110, 61, 48, 51, 57, 70]⟩ : ByteArray), (⟨#[80, 105, 61, 48, 51, 65, 48, 32, 82, 104, 111, 61, 48, 51, 65, 49, 32, 83, 105, 103, 109, 97, 61, 48, 51, 65, 51, 32, 84, 97, 117, 61, 48, 51, 65, 52, 32, 85, 112, 115, 105, 108, 111, 110, 61, 48, 51, 65, 53, 32, 80, 104, 105, 61, 48, 51, 65, 54]⟩ : ByteArray), (⟨#[67, 104, 105, 61, 48, 51, 65, 55, 32, 80, 115, 105, 61, 48, 51, 65, 56, 32, 97, 108, 112, 104, 97, 61, 48, 51, 66, 49, 32, 98, 101, 116, 97, 61, 48, 51, 66, 50, 32, 103, 97, 109, 109, 97, 61, 48, 51, 66, 51, 32, 100, 101, 108, 116, 97, 61, 48, 51, 66, 52]⟩ : ByteArray), (⟨#[101, 112, 115, 105, 108, 111, 110, 61, 48, 51, 66, 53, 32, 122, 101, 116, 97, 61, 48, 51, 66, 54, 32, 101, 116, 97, 61, 48, 51, 66, 55, 32, 116, 104, 101, 116, 97, 61, 48, 51, 66, 56, 32, 105, 111, 116, 97, 61, 48, 51, 66, 57, 32, 107, 97, 112, 112, 97, 61, 48, 51, 66, 65]⟩ : ByteArray), (⟨#[108, 97, 109, 98, 100, 97, 61, 48, 51, 66, 66, 32, 110, 117, 61, 48, 51, 66, 68, 32, 120, 105, 61, 48, 51, 66, 69, 32, 111, 109, 105, 99, 114, 111, 110, 61, 48, 51, 66, 70, 32, 114, 104, 111, 61, 48, 51, 67, 49, 32, 115, 105, 103, 109, 97, 49, 61, 48, 51, 67, 50]⟩ : ByteArray), (⟨#[115, 105, 103, 109, 97, 61, 48, 51, 67, 51, 32, 116, 97, 117, 61, 48, 51, 67, 52, 32, 117, 112, 115, 105, 108, 111, 110, 61, 48, 51, 67, 53, 32, 112, 104, 105, 61, 48, 51, 67, 54, 32, 99, 104, 105, 61, 48, 51, 67, 55, 32, 112, 115, 105, 61, 48, 51, 67, 56]⟩ : ByteArray), (⟨#[111, 109, 101, 103, 97, 61, 48, 51, 67, 57, 32, 116, 104, 101, 116, 97, 49, 61, 48, 51, 68, 49, 32, 85, 112, 115, 105, 108, 111, 110, 49, 61, 48, 51, 68, 50, 32, 112, 104, 105, 49, 61, 48, 51, 68, 53, 32, 111, 109, 101, 103, 97, 49, 61, 48, 51, 68, 54, 32, 117, 110, 105, 118, 101, 114, 115, 97, 108, 61, 50, 50, 48, 48]⟩ : ByteArray), (⟨#[101, 120, 105, 115, 116, 101, 110, 116, 105, 97, 108, 61, 50, 50, 48, 51, 32, 115, 117, 99, 104, 116, 104, 97, 116, 61, 50, 50, 48, 66, 32, 97, 115, 116, 101, 114, 105, 115, 107, 109, 97, 116, 104, 61, 50, 50, 49, 55, 32, 99, 111, 110, 103, 114, 117, 101, 110, 116, 61, 50, 50, 52, 53, 32, 116, 104, 101, 114, 101, 102, 111, 114, 101, 61, 50, 50, 51, 52, 32, 112, 101, 114, 112, 101, 110, 100, 105, 99, 117, 108, 97, 114, 61, 50, 50, 65, 53]⟩ : ByteArray), (⟨#[115, 105, 109, 105, 108, 97, 114, 61, 50, 50, 51, 67, 32, 109, 105, 110, 117, 116, 101, 61, 50, 48, 51, 50, 32, 99, 108, 117, 98, 61, 50, 54, 54, 51, 32, 100, 105, 97, 109, 111, 110, 100, 61, 50, 54, 54, 54, 32, 104, 101, 97, 114, 116, 61, 50, 54, 54, 53, 32, 115, 112, 97, 100, 101, 61, 50, 54, 54, 48]⟩ : ByteArray), (⟨#[97, 114, 114, 111, 119, 98, 111, 116, 104, 61, 50, 49, 57, 52, 32, 97, 114, 114, 111, 119, 108, 101, 102, 116, 61, 50, 49, 57, 48, 32, 97, 114, 114, 111, 119, 117, 112, 61, 50, 49, 57, 49, 32, 97, 114, 114, 111, 119, 114, 105, 103, 104, 116, 61, 50, 49, 57, 50, 32, 97, 114, 114, 111, 119, 100, 111, 119, 110, 61, 50, 49, 57, 51, 32, 115, 101, 99, 111, 110, 100, 61, 50, 48, 51, 51]⟩ : ByteArray), (⟨#[112, 114, 111, 112, 111, 114, 116, 105, 111, 110, 97, 108, 61, 50, 50, 49, 68, 32, 101, 113, 117, 105, 118, 97, 108, 101, 110, 99, 101, 61, 50, 50, 54, 49, 32, 97, 108, 101, 112, 104, 61, 50, 49, 51, 53, 32, 73, 102, 114, 97, 107, 116, 117, 114, 61, 50, 49, 49, 49, 32, 82, 102, 114, 97, 107, 116, 117, 114, 61, 50, 49, 49, 67, 32, 119, 101, 105, 101, 114, 115, 116, 114, 97, 115, 115, 61, 50, 49, 49, 56]⟩ : ByteArray), (⟨#[99, 105, 114, 99, 108, 101, 109, 117, 108, 116, 105, 112, 108, 121, 61, 50, 50, 57, 55, 32, 99, 105, 114, 99, 108, 101, 112, 108, 117, 115, 61, 50, 50, 57, 53, 32, 101, 109, 112, 116, 121, 115, 101, 116, 61, 50, 50, 48, 53, 32, 105, 110, 116, 101, 114, 115, 101, 99, 116, 105, 111, 110, 61, 50, 50, 50, 57, 32, 117, 110, 105, 111, 110, 61, 50, 50, 50, 65, 32, 112, 114, 111, 112, 101, 114, 115, 117, 112, 101, 114, 115, 101, 116, 61, 50, 50, 56, 51]⟩ : ByteArray), (⟨#[114, 101, 102, 108, 101, 120, 115, 117, 112, 101, 114, 115, 101, 116, 61, 50, 50, 56, 55, 32, 110, 111, 116, 115, 117, 98, 115, 101, 116, 61, 50, 50, 56, 52, 32, 112, 114, 111, 112, 101, 114, 115, 117, 98, 115, 101, 116, 61, 50, 50, 56, 50, 32, 114, 101, 102, 108, 101, 120, 115, 117, 98, 115, 101, 116, 61, 50, 50, 56, 54, 32, 101, 108, 101, 109, 101, 110, 116, 61, 50, 50, 48, 56, 32, 110, 111, 116, 101, 108, 101, 109, 101, 110, 116, 61, 50, 50, 48, 57]⟩ : ByteArray), (⟨#[97, 110, 103, 108, 101, 61, 50, 50, 50, 48, 32, 103, 114, 97, 100, 105, 101, 110, 116, 61, 50, 50, 48, 55, 32, 100, 111, 116, 109, 97, 116, 104, 61, 50, 50, 67, 53, 32, 108, 111, 103, 105, 99, 97, 108, 97, 110, 100, 61, 50, 50, 50, 55, 32, 108, 111, 103, 105, 99, 97, 108, 111, 114, 61, 50, 50, 50, 56, 32, 97, 114, 114, 111, 119, 100, 98, 108, 98, 111, 116, 104, 61, 50, 49, 68, 52]⟩ : ByteArray), (⟨#[97, 114, 114, 111, 119, 100, 98, 108, 108, 101, 102, 116, 61, 50, 49, 68, 48, 32, 97, 114, 114, 111, 119, 100, 98, 108, 117, 112, 61, 50, 49, 68, 49, 32, 97, 114, 114, 111, 119, 100, 98, 108, 114, 105, 103, 104, 116, 61, 50, 49, 68, 50, 32, 97, 114, 114, 111, 119, 100, 98, 108, 100, 111, 119, 110, 61, 50, 49, 68, 51, 32, 97, 110, 103, 108, 101, 108, 101, 102, 116, 61, 50, 51, 50, 57, 32, 97, 110, 103, 108, 101, 114, 105, 103, 104, 116, 61, 50, 51, 50, 65]⟩ : ByteArray), (⟨#[100, 97, 108, 101, 116, 104, 97, 116, 97, 102, 112, 97, 116, 97, 104, 61, 48, 53, 68, 51, 44, 48, 53, 66, 50, 32, 102, 102, 61, 70, 66, 48, 48, 32, 102, 102, 105, 61, 70, 66, 48, 51, 32, 102, 102, 108, 61, 70, 66, 48, 52, 32, 65, 109, 97, 99, 114, 111, 110, 61, 48, 49, 48, 48, 32, 97, 109, 97, 99, 114, 111, 110, 61, 48, 49, 48, 49]⟩ : ByteArray), (⟨#[65, 98, 114, 101, 118, 101, 61, 48, 49, 48, 50, 32, 97, 98, 114, 101, 118, 101, 61, 48, 49, 48, 51, 32, 76, 99, 111, 109, 109, 97, 97, 99, 99, 101, 110, 116, 61, 48, 49, 51, 66]⟩ : ByteArray)] : List ByteArray)) := ⟨_, rfl⟩
  replace H : (some y112) = some r := by first | (rw [hy112]; with_reducible exact H) | (have H2_ := (Option.bind_some _ _).symm.trans H; rw [hy112]; with_reducible exact H2_) | (have H2_ := (Option.bind_some _ _).symm.trans H; with_reducible exact H2_) | with_reducible exact H | (rw [hy112]; exact H) | exact H
  have Ny112 := Aside0.mk hy112
  clear hy112
  obtain rfl := Option.some.inj H
  go_enter Tryd.func59, Tryd.ntmps59
  go_wp2_with (first | ((with_reducible refine gate_dst (N := 1) rfl ?_); refine Kd.R_lit Kd.string _ 9 ?hg (N := 1) ?hd (xs := ([(⟨#[100, 105, 118, 105, 100, 101, 61, 48, 48, 70, 55, 32, 111, 115, 108, 97, 115, 104, 61, 48, 48, 70, 56, 32, 117, 103, 114, 97, 118, 101, 61, 48, 48, 70, 57, 32, 117, 97, 99, 117, 116, 101, 61, 48, 48, 70, 65, 32, 117, 99, 105, 114, 99, 117, 109, 102, 108, 101, 120, 61, 48, 48, 70, 66, 32, 117, 100, 105, 101, 114, 101, 115, 105, 115, 61, 48, 48, 70, 67]⟩ : ByteArray), (⟨#[121, 97, 99, 117, 116, 101, 61, 48, 48, 70, 68, 32, 116, 104, 111, 114, 110, 61, 48, 48, 70, 69, 32, 121, 100, 105, 101, 114, 101, 115, 105, 115, 61, 48, 48, 70, 70, 32, 69, 117, 114, 111, 61, 50, 48, 65, 67, 32, 113, 117, 111, 116, 101, 115, 105, 110, 103, 108, 98, 97, 115, 101, 61, 50, 48, 49, 65, 32, 102, 108, 111, 114, 105, 110, 61, 48, 49, 57, 50]⟩ : ByteArray), (⟨#[113, 117, 111, 116, 101, 100, 98, 108, 98, 97, 115, 101, 61, 50, 48, 49, 69, 32, 101, 108, 108, 105, 112, 115, 105, 115, 61, 50, 48, 50, 54, 32, 100, 97, 103, 103, 101, 114, 61, 50, 48, 50, 48, 32, 100, 97, 103, 103, 101, 114, 100, 98, 108, 61, 50, 48, 50, 49, 32, 99, 105, 114, 99, 117, 109, 102, 108, 101, 120, 61, 48, 50, 67, 54, 32, 112, 101, 114, 116, 104, 111, 117, 115, 97, 110, 100, 61, 50, 48, 51, 48]⟩ : ByteArray), (⟨#[83, 99, 97, 114, 111, 110, 61, 48, 49, 54, 48, 32, 103, 117, 105, 108, 115, 105, 110, 103, 108, 108, 101, 102, 116, 61, 50, 48, 51, 57, 32, 79, 69, 61, 48, 49, 53, 50, 32, 90, 99, 97, 114, 111, 110, 61, 48, 49, 55, 68, 32, 113, 117, 111, 116, 101, 108, 101, 102, 116, 61, 50, 48, 49, 56, 32, 113, 117, 111, 116, 101, 114, 105, 103, 104, 116, 61, 50, 48, 49, 57]⟩ : ByteArray), (⟨#[113, 117, 111, 116, 101, 100, 98, 108, 108, 101, 102, 116, 61, 50, 48, 49, 67, 32, 113, 117, 111, 116, 101, 100, 98, 108, 114, 105, 103, 104, 116, 61, 50, 48, 49, 68, 32, 98, 117, 108, 108, 101, 116, 61, 50, 48, 50, 50, 32, 101, 110, 100, 97, 115, 104, 61, 50, 48, 49, 51, 32, 101, 109, 100, 97, 115, 104, 61, 50, 48, 49, 52, 32, 116, 105, 108, 100, 101, 61, 48, 50, 68, 67]⟩ : ByteArray), (⟨#[116, 114, 97, 100, 101, 109, 97, 114, 107, 61, 50, 49, 50, 50, 32, 115, 99, 97, 114, 111, 110, 61, 48, 49, 54, 49, 32, 103, 117, 105, 108, 115, 105, 110, 103, 108, 114, 105, 103, 104, 116, 61, 50, 48, 51, 65, 32, 111, 101, 61, 48, 49, 53, 51, 32, 122, 99, 97, 114, 111, 110, 61, 48, 49, 55, 69, 32, 89, 100, 105, 101, 114, 101, 115, 105, 115, 61, 48, 49, 55, 56]⟩ : ByteArray), (⟨#[102, 105, 61, 70, 66, 48, 49, 32, 102, 108, 61, 70, 66, 48, 50, 32, 102, 114, 97, 99, 116, 105, 111, 110, 61, 50, 48, 52, 52, 32, 100, 111, 116, 108, 101, 115, 115, 105, 61, 48, 49, 51, 49, 32, 76, 115, 108, 97, 115, 104, 61, 48, 49, 52, 49, 32, 108, 115, 108, 97, 115, 104, 61, 48, 49, 52, 50]⟩ : ByteArray), (⟨#[98, 114, 101, 118, 101, 61, 48, 50, 68, 56, 32, 99, 97, 114, 111, 110, 61, 48, 50, 67, 55, 32, 100, 111, 116, 97, 99, 99, 101, 110, 116, 61, 48, 50, 68, 57, 32, 104, 117, 110, 103, 97, 114, 117, 109, 108, 97, 117, 116, 61, 48, 50, 68, 68, 32, 111, 103, 111, 110, 101, 107, 61, 48, 50, 68, 66, 32, 114, 105, 110, 103, 61, 48, 50, 68, 65]⟩ : ByteArray), (⟨#[109, 105, 110, 117, 115, 61, 50, 50, 49, 50, 32, 110, 111, 116, 101, 113, 117, 97, 108, 61, 50, 50, 54, 48, 32, 105, 110, 102, 105, 110, 105, 116, 121, 61, 50, 50, 49, 69, 32, 108, 101, 115, 115, 101, 113, 117, 97, 108, 61, 50, 50, 54, 52, 32, 103, 114, 101, 97, 116, 101, 114, 101, 113, 117, 97, 108, 61, 50, 50, 54, 53, 32, 112, 97, 114, 116, 105, 97, 108, 100, 105, 102, 102, 61, 50, 50, 48, 50]⟩ : ByteArray), (⟨#[115, 117, 109, 109, 97, 116, 105, 111, 110, 61, 50, 50, 49, 49, 32, 112, 114, 111, 100, 117, 99, 116, 61, 50, 50, 48, 70, 32, 112, 105, 61, 48, 51, 67, 48, 32, 105, 110, 116, 101, 103, 114, 97, 108, 61, 50, 50, 50, 66, 32, 79, 109, 101, 103, 97, 61, 50, 49, 50, 54, 32, 114, 97, 100, 105, 99, 97, 108, 61, 50, 50, 49, 65]⟩ : ByteArray), (⟨#[97, 112, 112, 114, 111, 120, 101, 113, 117, 97, 108, 61, 50, 50, 52, 56, 32, 68, 101, 108, 116, 97, 61, 50, 50, 48, 54, 32, 108, 111, 122, 101, 110, 103, 101, 61, 50, 53, 67, 65, 32, 97, 112, 112, 108, 101, 61, 70, 56, 70, 70, 32, 65, 108, 112, 104, 97, 61, 48, 51, 57, 49, 32, 66, 101, 116, 97, 61, 48, 51, 57, 50]⟩ : ByteArray), (⟨#[71, 97, 109, 109, 97, 61, 48, 51, 57, 51, 32, 69, 112, 115, 105, 108, 111, 110, 61, 48, 51, 57, 53, 32, 90, 101, 116, 97, 61, 48, 51, 57, 54, 32, 69, 116, 97, 61, 48, 51, 57, 55, 32, 84, 104, 101, 116, 97, 61, 48, 51, 57, 56, 32, 73, 111, 116, 97, 61, 48, 51, 57, 57]⟩ : ByteArray), (⟨#[75, 97, 112, 112, 97, 61, 48, 51, 57, 65, 32, 76, 97, 109, 98, 100, 97, 61, 48, 51, 57, 66, 32, 77, 117, 61, 48, 51, 57, 67, 32, 78, 117, 61, 48, 51, 57, 68, 32, 88, 105, 61, 48, 51, 57, 69, 32, 79, 109, 105, 99, 114, 111, 110, 61, 48, 51, 57, 70]⟩ : ByteArray), (⟨#[80, 105, 61, 48, 51, 65, 48, 32, 82, 104, 111, 61, 48, 51, 65, 49, 32, 83, 105, 103, 109, 97, 61, 48, 51, 65, 51, 32, 84, 97, 117, 61, 48, 51, 65, 52, 32, 85, 112, 115, 105, 108, 111, 110, 61, 48, 51, 65, 53, 32, 80, 104, 105, 61, 48, 51, 65, 54]⟩ : ByteArray), (⟨#[67, 104, 105, 61, 48, 51, 65, 55, 32, 80, 115, 105, 61, 48, 51, 65, 56, 32, 97, 108, 112, 104, 97, 61, 48, 51, 66, 49, 32, 98, 101, 116, 97, 61, 48, 51, 66, 50, 32, 103, 97, 109, 109, 97, 61, 48, 51, 66, 51, 32, 100, 101, 108, 116, 97, 61, 48, 51, 66, 52]⟩ : ByteArray), (⟨#[101, 112, 115, 105, 108, 111, 110, 61, 48, 51, 66, 53, 32, 122, 101, 116, 97, 61, 48, 51, 66, 54, 32, 101, 116, 97, 61, 48, 51, 66, 55, 32, 116, 104, 101, 116, 97, 61, 48, 51, 66, 56, 32, 105, 111, 116, 97, 61, 48, 51, 66, 57, 32, 107, 97, 112, 112, 97, 61, 48, 51, 66, 65]⟩ : ByteArray), (⟨#[108, 97, 109, 98, 100, 97, 61, 48, 51, 66, 66, 32, 110, 117, 61, 48, 51, 66, 68, 32, 120, 105, 61, 48, 51, 66, 69, 32, 111, 109, 105, 99, 114, 111, 110, 61, 48, 51, 66, 70, 32, 114, 104, 111, 61, 48, 51, 67, 49, 32, 115, 105, 103, 109, 97, 49, 61, 48, 51, 67, 50]⟩ : ByteArray), (⟨#[115, 105, 103, 109, 97, 61, 48, 51, 67, 51, 32, 116, 97, 117, 61, 48, 51, 67, 52, 32, 117, 112, 115, 105, 108, 111, 110, 61, 48, 51, 67, 53, 32, 112, 104, 105, 61, 48, 51, 67, 54, 32, 99, 104, 105, 61, 48, 51, 67, 55, 32, 112, 115, 105, 61, 48, 51, 67, 56]⟩ : ByteArray), (⟨#[111, 109, 101, 103, 97, 61, 48, 51, 67, 57, 32, 116, 104, 101, 116, 97, 49, 61, 48, 51, 68, 49, 32, 85, 112, 115, 105, 108, 111, 110, 49, 61, 48, 51, 68, 50, 32, 112, 104, 105, 49, 61, 48, 51, 68, 53, 32, 111, 109, 101, 103, 97, 49, 61, 48, 51, 68, 54, 32, 117, 110, 105, 118, 101, 114, 115, 97, 108, 61, 50, 50, 48, 48]⟩ : ByteArray), (⟨#[101, 120, 105, 115, 116, 101, 110, 116, 105, 97, 108, 61, 50, 50, 48, 51, 32, 115, 117, 99, 104, 116, 104, 97, 116, 61, 50, 50, 48, 66, 32, 97, 115, 116, 101, 114, 105, 115, 107, 109, 97, 116, 104, 61, 50, 50, 49, 55, 32, 99, 111, 110, 103, 114, 117, 101, 110, 116, 61, 50, 50, 52, 53, 32, 116, 104, 101, 114, 101, 102, 111, 114, 101, 61, 50, 50, 51, 52, 32, 112, 101, 114, 112, 101, 110, 100, 105, 99, 117, 108, 97, 114, 61, 50, 50, 65, 53]⟩ : ByteArray), (⟨#[115, 105, 109, 105, 108, 97, 114, 61, 50, 50, 51, 67, 32, 109, 105, 110, 117, 116, 101, 61, 50, 48, 51, 50, 32, 99, 108, 117, 98, 61, 50, 54, 54, 51, 32, 100, 105, 97, 109, 111, 110, 100, 61, 50, 54, 54, 54, 32, 104, 101, 97, 114, 116, 61, 50, 54, 54, 53, 32, 115, 112, 97, 100, 101, 61, 50, 54, 54, 48]⟩ : ByteArray), (⟨#[97, 114, 114, 111, 119, 98, 111, 116, 104, 61, 50, 49, 57, 52, 32, 97, 114, 114, 111, 119, 108, 101, 102, 116, 61, 50, 49, 57, 48, 32, 97, 114, 114, 111, 119, 117, 112, 61, 50, 49, 57, 49, 32, 97, 114, 114, 111, 119, 114, 105, 103, 104, 116, 61, 50, 49, 57, 50, 32, 97, 114, 114, 111, 119, 100, 111, 119, 110, 61, 50, 49, 57, 51, 32, 115, 101, 99, 111, 110, 100, 61, 50, 48, 51, 51]⟩ : ByteArray), (⟨#[112, 114, 111, 112, 111, 114, 116, 105, 111, 110, 97, 108, 61, 50, 50, 49, 68, 32, 101, 113, 117, 105, 118, 97, 108, 101, 110, 99, 101, 61, 50, 50, 54, 49, 32, 97, 108, 101, 112, 104, 61, 50, 49, 51, 53, 32, 73, 102, 114, 97, 107, 116, 117, 114, 61, 50, 49, 49, 49, 32, 82, 102, 114, 97, 107, 116, 117, 114, 61, 50, 49, 49, 67, 32, 119, 101, 105, 101, 114, 115, 116, 114, 97, 115, 115, 61, 50, 49, 49, 56]⟩ : ByteArray), (⟨#[99, 105, 114, 99, 108, 101, 109, 117, 108, 116, 105, 112, 108, 121, 61, 50, 50, 57, 55, 32, 99, 105, 114, 99, 108, 101, 112, 108, 117, 115, 61, 50, 50, 57, 53, 32, 101, 109, 112, 116, 121, 115, 101, 116, 61, 50, 50, 48, 53, 32, 105, 110, 116, 101, 114, 115, 101, 99, 116, 105, 111, 110, 61, 50, 50, 50, 57, 32, 117, 110, 105, 111, 110, 61, 50, 50, 50, 65, 32, 112, 114, 111, 112, 101, 114, 115, 117, 112, 101, 114, 115, 101, 116, 61, 50, 50, 56, 51]⟩ : ByteArray), (⟨#[114, 101, 102, 108, 101, 120, 115, 117, 112, 101, 114, 115, 101, 116, 61, 50, 50, 56, 55, 32, 110, 111, 116, 115, 117, 98, 115, 101, 116, 61, 50, 50, 56, 52, 32, 112, 114, 111, 112, 101, 114, 115, 117, 98, 115, 101, 116, 61, 50, 50, 56, 50, 32, 114, 101, 102, 108, 101, 120, 115, 117, 98, 115, 101, 116, 61, 50, 50, 56, 54, 32, 101, 108, 101, 109, 101, 110, 116, 61, 50, 50, 48, 56, 32, 110, 111, 116, 101, 108, 101, 109, 101, 110, 116, 61, 50, 50, 48, 57]⟩ : ByteArray), (⟨#[97, 110, 103, 108, 101, 61, 50, 50, 50, 48, 32, 103, 114, 97, 100, 105, 101, 110, 116, 61, 50, 50, 48, 55, 32, 100, 111, 116, 109, 97, 116, 104, 61, 50, 50, 67, 53, 32, 108, 111, 103, 105, 99, 97, 108, 97, 110, 100, 61, 50, 50, 50, 55, 32, 108, 111, 103, 105, 99, 97, 108, 111, 114, 61, 50, 50, 50, 56, 32, 97, 114, 114, 111, 119, 100, 98, 108, 98, 111, 116, 104, 61, 50, 49, 68, 52]⟩ : ByteArray), (⟨#[97, 114, 114, 111, 119, 100, 98, 108, 108, 101, 102, 116, 61, 50, 49, 68, 48, 32, 97, 114, 114, 111, 119, 100, 98, 108, 117, 112, 61, 50, 49, 68, 49, 32, 97, 114, 114, 111, 119, 100, 98, 108, 114, 105, 103, 104, 116, 61, 50, 49, 68, 50, 32, 97, 114, 114, 111, 119, 100, 98, 108, 100, 111, 119, 110, 61, 50, 49, 68, 51, 32, 97, 110, 103, 108, 101, 108, 101, 102, 116, 61, 50, 51, 50, 57, 32, 97, 110, 103, 108, 101, 114, 105, 103, 104, 116, 61, 50, 51, 50, 65]⟩ : ByteArray), (⟨#[100, 97, 108, 101, 116, 104, 97, 116, 97, 102, 112, 97, 116, 97, 104, 61, 48, 53, 68, 51, 44, 48, 53, 66, 50, 32, 102, 102, 61, 70, 66, 48, 48, 32, 102, 102, 105, 61, 70, 66, 48, 51, 32, 102, 102, 108, 61, 70, 66, 48, 52, 32, 65, 109, 97, 99, 114, 111, 110, 61, 48, 49, 48, 48, 32, 97, 109, 97, 99, 114, 111, 110, 61, 48, 49, 48, 49]⟩ : ByteArray), (⟨#[65, 98, 114, 101, 118, 101, 61, 48, 49, 48, 50, 32, 97, 98, 114, 101, 118, 101, 61, 48, 49, 48, 51, 32, 76, 99, 111, 109, 109, 97, 97, 99, 99, 101, 110, 116, 61, 48, 49, 51, 66]⟩ : ByteArray)] : List ByteArray)) (inner := [.string (⟨#[100, 105, 118, 105, 100, 101, 61, 48, 48, 70, 55, 32, 111, 115, 108, 97, 115, 104, 61, 48, 48, 70, 56, 32, 117, 103, 114, 97, 118, 101, 61, 48, 48, 70, 57, 32, 117, 97, 99, 117, 116, 101, 61, 48, 48, 70, 65, 32, 117, 99, 105, 114, 99, 117, 109, 102, 108, 101, 120, 61, 48, 48, 70, 66, 32, 117, 100, 105, 101, 114, 101, 115, 105, 115, 61, 48, 48, 70, 67]⟩ : ByteArray), .string (⟨#[121, 97, 99, 117, 116, 101, 61, 48, 48, 70, 68, 32, 116, 104, 111, 114, 110, 61, 48, 48, 70, 69, 32, 121, 100, 105, 101, 114, 101, 115, 105, 115, 61, 48, 48, 70, 70, 32, 69, 117, 114, 111, 61, 50, 48, 65, 67, 32, 113, 117, 111, 116, 101, 115, 105, 110, 103, 108, 98, 97, 115, 101, 61, 50, 48, 49, 65, 32, 102, 108, 111, 114, 105, 110, 61, 48, 49, 57, 50]⟩ : ByteArray), .string (⟨#[113, 117, 111, 116, 101, 100, 98, 108, 98, 97, 115, 101, 61, 50, 48, 49, 69, 32, 101, 108, 108, 105, 112, 115, 105, 115, 61, 50, 48, 50, 54, 32, 100, 97, 103, 103, 101, 114, 61, 50, 48, 50, 48, 32, 100, 97, 103, 103, 101, 114, 100, 98, 108, 61, 50, 48, 50, 49, 32, 99, 105, 114, 99, 117, 109, 102, 108, 101, 120, 61, 48, 50, 67, 54, 32, 112, 101, 114, 116, 104, 111, 117, 115, 97, 110, 100, 61, 50, 48, 51, 48]⟩ : ByteArray), .string (⟨#[83, 99, 97, 114, 111, 110, 61, 48, 49, 54, 48, 32, 103, 117, 105, 108, 115, 105, 110, 103, 108, 108, 101, 102, 116, 61, 50, 48, 51, 57, 32, 79, 69, 61, 48, 49, 53, 50, 32, 90, 99, 97, 114, 111, 110, 61, 48, 49, 55, 68, 32, 113, 117, 111, 116, 101, 108, 101, 102, 116, 61, 50, 48, 49, 56, 32, 113, 117, 111, 116, 101, 114, 105, 103, 104, 116, 61, 50, 48, 49, 57]⟩ : ByteArray), .string (⟨#[113, 117, 111, 116, 101, 100, 98, 108, 108, 101, 102, 116, 61, 50, 48, 49, 67, 32, 113, 117, 111, 116, 101, 100, 98, 108, 114, 105, 103, 104, 116, 61, 50, 48, 49, 68, 32, 98, 117, 108, 108, 101, 116, 61, 50, 48, 50, 50, 32, 101, 110, 100, 97, 115, 104, 61, 50, 48, 49, 51, 32, 101, 109, 100, 97, 115, 104, 61, 50, 48, 49, 52, 32, 116, 105, 108, 100, 101, 61, 48, 50, 68, 67]⟩ : ByteArray), .string (⟨#[116, 114, 97, 100, 101, 109, 97, 114, 107, 61, 50, 49, 50, 50, 32, 115, 99, 97, 114, 111, 110, 61, 48, 49, 54, 49, 32, 103, 117, 105, 108, 115, 105, 110, 103, 108, 114, 105, 103, 104, 116, 61, 50, 48, 51, 65, 32, 111, 101, 61, 48, 49, 53, 51, 32, 122, 99, 97, 114, 111, 110, 61, 48, 49, 55, 69, 32, 89, 100, 105, 101, 114, 101, 115, 105, 115, 61, 48, 49, 55, 56]⟩ : ByteArray), .string (⟨#[102, 105, 61, 70, 66, 48, 49, 32, 102, 108, 61, 70, 66, 48, 50, 32, 102, 114, 97, 99, 116, 105, 111, 110, 61, 50, 48, 52, 52, 32, 100, 111, 116, 108, 101, 115, 115, 105, 61, 48, 49, 51, 49, 32, 76, 115, 108, 97, 115, 104, 61, 48, 49, 52, 49, 32, 108, 115, 108, 97, 115, 104, 61, 48, 49, 52, 50]⟩ : ByteArray), .string (⟨#[98, 114, 101, 118, 101, 61, 48, 50, 68, 56, 32, 99, 97, 114, 111, 110, 61, 48, 50, 67, 55, 32, 100, 111, 116, 97, 99, 99, 101, 110, 116, 61, 48, 50, 68, 57, 32, 104, 117, 110, 103, 97, 114, 117, 109, 108, 97, 117, 116, 61, 48, 50, 68, 68, 32, 111, 103, 111, 110, 101, 107, 61, 48, 50, 68, 66, 32, 114, 105, 110, 103, 61, 48, 50, 68, 65]⟩ : ByteArray), .string (⟨#[109, 105, 110, 117, 115, 61, 50, 50, 49, 50, 32, 110, 111, 116, 101, 113, 117, 97, 108, 61, 50, 50, 54, 48, 32, 105, 110, 102, 105, 110, 105, 116, 121, 61, 50, 50, 49, 69, 32, 108, 101, 115, 115, 101, 113, 117, 97, 108, 61, 50, 50, 54, 52, 32, 103, 114, 101, 97, 116, 101, 114, 101, 113, 117, 97, 108, 61, 50, 50, 54, 53, 32, 112, 97, 114, 116, 105, 97, 108, 100, 105, 102, 102, 61, 50, 50, 48, 50]⟩ : ByteArray), .string (⟨#[115, 117, 109, 109, 97, 116, 105, 111, 110, 61, 50, 50, 49, 49, 32, 112, 114, 111, 100, 117, 99, 116, 61, 50, 50, 48, 70, 32, 112, 105, 61, 48, 51, 67, 48, 32, 105, 110, 116, 101, 103, 114, 97, 108, 61, 50, 50, 50, 66, 32, 79, 109, 101, 103, 97, 61, 50, 49, 50, 54, 32, 114, 97, 100, 105, 99, 97, 108, 61, 50, 50, 49, 65]⟩ : ByteArray), .string (⟨#[97, 112, 112, 114, 111, 120, 101, 113, 117, 97, 108, 61, 50, 50, 52, 56, 32, 68, 101, 108, 116, 97, 61, 50, 50, 48, 54, 32, 108, 111, 122, 101, 110, 103, 101, 61, 50, 53, 67, 65, 32, 97, 112, 112, 108, 101, 61, 70, 56, 70, 70, 32, 65, 108, 112, 104, 97, 61, 48, 51, 57, 49, 32, 66, 101, 116, 97, 61, 48, 51, 57, 50]⟩ : ByteArray), .string (⟨#[71, 97, 109, 109, 97, 61, 48, 51, 57, 51, 32, 69, 112, 115, 105, 108, 111, 110, 61, 48, 51, 57, 53, 32, 90, 101, 116, 97, 61, 48, 51, 57, 54, 32, 69, 116, 97, 61, 48, 51, 57, 55, 32, 84, 104, 101, 116, 97, 61, 48, 51, 57, 56, 32, 73, 111, 116, 97, 61, 48, 51, 57, 57]⟩ : ByteArray), .string (⟨#[75, 97, 112, 112, 97, 61, 48, 51, 57, 65, 32, 76, 97, 109, 98, 100, 97, 61, 48, 51, 57, 66, 32, 77, 117, 61, 48, 51, 57, 67, 32, 78, 117, 61, 48, 51, 57, 68, 32, 88, 105, 61, 48, 51, 57, 69, 32, 79, 109, 105, 99, 114, 111, 110, 61, 48, 51, 57, 70]⟩ : ByteArray), .string (⟨#[80, 105, 61, 48, 51, 65, 48, 32, 82, 104, 111, 61, 48, 51, 65, 49, 32, 83, 105, 103, 109, 97, 61, 48, 51, 65, 51, 32, 84, 97, 117, 61, 48, 51, 65, 52, 32, 85, 112, 115, 105, 108, 111, 110, 61, 48, 51, 65, 53, 32, 80, 104, 105, 61, 48, 51, 65, 54]⟩ : ByteArray), .string (⟨#[67, 104, 105, 61, 48, 51, 65, 55, 32, 80, 115, 105, 61, 48, 51, 65, 56, 32, 97, 108, 112, 104, 97, 61, 48, 51, 66, 49, 32, 98, 101, 116, 97, 61, 48, 51, 66, 50, 32, 103, 97, 109, 109, 97, 61, 48, 51, 66, 51, 32, 100, 101, 108, 116, 97, 61, 48, 51, 66, 52]⟩ : ByteArray), .string (⟨#[101, 112, 115, 105, 108, 111, 110, 61, 48, 51, 66, 53, 32, 122, 101, 116, 97, 61, 48, 51, 66, 54, 32, 101, 116, 97, 61, 48, 51, 66, 55, 32, 116, 104, 101, 116, 97, 61, 48, 51, 66, 56, 32, 105, 111, 116, 97, 61, 48, 51, 66, 57, 32, 107, 97, 112, 112, 97, 61, 48, 51, 66, 65]⟩ : ByteArray), .string (⟨#[108, 97, 109, 98, 100, 97, 61, 48, 51, 66, 66, 32, 110, 117, 61, 48, 51, 66, 68, 32, 120, 105, 61, 48, 51, 66, 69, 32, 111, 109, 105, 99, 114, 111, 110, 61, 48, 51, 66, 70, 32, 114, 104, 111, 61, 48, 51, 67, 49, 32, 115, 105, 103, 109, 97, 49, 61, 48, 51, 67, 50]⟩ : ByteArray), .string (⟨#[115, 105, 103, 109, 97, 61, 48, 51, 67, 51, 32, 116, 97, 117, 61, 48, 51, 67, 52, 32, 117, 112, 115, 105, 108, 111, 110, 61, 48, 51, 67, 53, 32, 112, 104, 105, 61, 48, 51, 67, 54, 32, 99, 104, 105, 61, 48, 51, 67, 55, 32, 112, 115, 105, 61, 48, 51, 67, 56]⟩ : ByteArray), .string (⟨#[111, 109, 101, 103, 97, 61, 48, 51, 67, 57, 32, 116, 104, 101, 116, 97, 49, 61, 48, 51, 68, 49, 32, 85, 112, 115, 105, 108, 111, 110, 49, 61, 48, 51, 68, 50, 32, 112, 104, 105, 49, 61, 48, 51, 68, 53, 32, 111, 109, 101, 103, 97, 49, 61, 48, 51, 68, 54, 32, 117, 110, 105, 118, 101, 114, 115, 97, 108, 61, 50, 50, 48, 48]⟩ : ByteArray), .string (⟨#[101, 120, 105, 115, 116, 101, 110, 116, 105, 97, 108, 61, 50, 50, 48, 51, 32, 115, 117, 99, 104, 116, 104, 97, 116, 61, 50, 50, 48, 66, 32, 97, 115, 116, 101, 114, 105, 115, 107, 109, 97, 116, 104, 61, 50, 50, 49, 55, 32, 99, 111, 110, 103, 114, 117, 101, 110, 116, 61, 50, 50, 52, 53, 32, 116, 104, 101, 114, 101, 102, 111, 114, 101, 61, 50, 50, 51, 52, 32, 112, 101, 114, 112, 101, 110, 100, 105, 99, 117, 108, 97, 114, 61, 50, 50, 65, 53]⟩ : ByteArray), .string (⟨#[115, 105, 109, 105, 108, 97, 114, 61, 50, 50, 51, 67, 32, 109, 105, 110, 117, 116, 101, 61, 50, 48, 51, 50, 32, 99, 108, 117, 98, 61, 50, 54, 54, 51, 32, 100, 105, 97, 109, 111, 110, 100, 61, 50, 54, 54, 54, 32, 104, 101, 97, 114, 116, 61, 50, 54, 54, 53, 32, 115, 112, 97, 100, 101, 61, 50, 54, 54, 48]⟩ : ByteArray), .string (⟨#[97, 114, 114, 111, 119, 98, 111, 116, 104, 61, 50, 49, 57, 52, 32, 97, 114, 114, 111, 119, 108, 101, 102, 116, 61, 50, 49, 57, 48, 32, 97, 114, 114, 111, 119, 117, 112, 61, 50, 49, 57, 49, 32, 97, 114, 114, 111, 119, 114, 105, 103, 104, 116, 61, 50, 49, 57, 50, 32, 97, 114, 114, 111, 119, 100, 111, 119, 110, 61, 50, 49, 57, 51, 32, 115, 101, 99, 111, 110, 100, 61, 50, 48, 51, 51]⟩ : ByteArray), .string (⟨#[112, 114, 111, 112, 111, 114, 116, 105, 111, 110, 97, 108, 61, 50, 50, 49, 68, 32, 101, 113, 117, 105, 118, 97, 108, 101, 110, 99, 101, 61, 50, 50, 54, 49, 32, 97, 108, 101, 112, 104, 61, 50, 49, 51, 53, 32, 73, 102, 114, 97, 107, 116, 117, 114, 61, 50, 49, 49, 49, 32, 82, 102, 114, 97, 107, 116, 117, 114, 61, 50, 49, 49, 67, 32, 119, 101, 105, 101, 114, 115, 116, 114, 97, 115, 115, 61, 50, 49, 49, 56]⟩ : ByteArray), .string (⟨#[99, 105, 114, 99, 108, 101, 109, 117, 108, 116, 105, 112, 108, 121, 61, 50, 50, 57, 55, 32, 99, 105, 114, 99, 108, 101, 112, 108, 117, 115, 61, 50, 50, 57, 53, 32, 101, 109, 112, 116, 121, 115, 101, 116, 61, 50, 50, 48, 53, 32, 105, 110, 116, 101, 114, 115, 101, 99, 116, 105, 111, 110, 61, 50, 50, 50, 57, 32, 117, 110, 105, 111, 110, 61, 50, 50, 50, 65, 32, 112, 114, 111, 112, 101, 114, 115, 117, 112, 101, 114, 115, 101, 116, 61, 50, 50, 56, 51]⟩ : ByteArray), .string (⟨#[114, 101, 102, 108, 101, 120, 115, 117, 112, 101, 114, 115, 101, 116, 61, 50, 50, 56, 55, 32, 110, 111, 116, 115, 117, 98, 115, 101, 116, 61, 50, 50, 56, 52, 32, 112, 114, 111, 112, 101, 114, 115, 117, 98, 115, 101, 116, 61, 50, 50, 56, 50, 32, 114, 101, 102, 108, 101, 120, 115, 117, 98, 115, 101, 116, 61, 50, 50, 56, 54, 32, 101, 108, 101, 109, 101, 110, 116, 61, 50, 50, 48, 56, 32, 110, 111, 116, 101, 108, 101, 109, 101, 110, 116, 61, 50, 50, 48, 57]⟩ : ByteArray), .string (⟨#[97, 110, 103, 108, 101, 61, 50, 50, 50, 48, 32, 103, 114, 97, 100, 105, 101, 110, 116, 61, 50, 50, 48, 55, 32, 100, 111, 116, 109, 97, 116, 104, 61, 50, 50, 67, 53, 32, 108, 111, 103, 105, 99, 97, 108, 97, 110, 100, 61, 50, 50, 50, 55, 32, 108, 111, 103, 105, 99, 97, 108, 111, 114, 61, 50, 50, 50, 56, 32, 97, 114, 114, 111, 119, 100, 98, 108, 98, 111, 116, 104, 61, 50, 49, 68, 52]⟩ : ByteArray), .string (⟨#[97, 114, 114, 111, 119, 100, 98, 108, 108, 101, 102, 116, 61, 50, 49, 68, 48, 32, 97, 114, 114, 111, 119, 100, 98, 108, 117, 112, 61, 50, 49, 68, 49, 32, 97, 114, 114, 111, 119, 100, 98, 108, 114, 105, 103, 104, 116, 61, 50, 49, 68, 50, 32, 97, 114, 114, 111, 119, 100, 98, 108, 100, 111, 119, 110, 61, 50, 49, 68, 51, 32, 97, 110, 103, 108, 101, 108, 101, 102, 116, 61, 50, 51, 50, 57, 32, 97, 110, 103, 108, 101, 114, 105, 103, 104, 116, 61, 50, 51, 50, 65]⟩ : ByteArray), .string (⟨#[100, 97, 108, 101, 116, 104, 97, 116, 97, 102, 112, 97, 116, 97, 104, 61, 48, 53, 68, 51, 44, 48, 53, 66, 50, 32, 102, 102, 61, 70, 66, 48, 48, 32, 102, 102, 105, 61, 70, 66, 48, 51, 32, 102, 102, 108, 61, 70, 66, 48, 52, 32, 65, 109, 97, 99, 114, 111, 110, 61, 48, 49, 48, 48, 32, 97, 109, 97, 99, 114, 111, 110, 61, 48, 49, 48, 49]⟩ : ByteArray), .string (⟨#[65, 98, 114, 101, 118, 101, 61, 48, 49, 48, 50, 32, 97, 98, 114, 101, 118, 101, 61, 48, 49, 48, 51, 32, 76, 99, 111, 109, 109, 97, 97, 99, 99, 101, 110, 116, 61, 48, 49, 51, 66]⟩ : ByteArray)]) (ok := fun _ => True) (okp := fun _ => True) ?hr ?hp (fun _ hk => hk) trivial (Below.refl _ _) (Nat.le_refl _) (by simp) ?_; (case hd => rfl); (case hg => rfl); (case hr => first | (go_simp; done) | (go_simp; rfl)); (case hp => exact (Reps.one (show Kd.M Kd.string _ _ _ (⟨#[100, 105, 118, 105, 100, 101, 61, 48, 48, 70, 55, 32, 111, 115, 108, 97, 115, 104, 61, 48, 48, 70, 56, 32, 117, 103, 114, 97, 118, 101, 61, 48, 48, 70, 57, 32, 117, 97, 99, 117, 116, 101, 61, 48, 48, 70, 65, 32, 117, 99, 105, 114, 99, 117, 109, 102, 108, 101, 120, 61, 48, 48, 70, 66, 32, 117, 100, 105, 101, 114, 101, 115, 105, 115, 61, 48, 48, 70, 67]⟩ : ByteArray) [.string (⟨#[100, 105, 118, 105, 100, 101, 61, 48, 48, 70, 55, 32, 111, 115, 108, 97, 115, 104, 61, 48, 48, 70, 56, 32, 117, 103, 114, 97, 118, 101, 61, 48, 48, 70, 57, 32, 117, 97, 99, 117, 116, 101, 61, 48, 48, 70, 65, 32, 117, 99, 105, 114, 99, 117, 109, 102, 108, 101, 120, 61, 48, 48, 70, 66, 32, 117, 100, 105, 101, 114, 101, 115, 105, 115, 61, 48, 48, 70, 67]⟩ : ByteArray)] from rfl) (Reps.one (show Kd.M Kd.string _ _ _ (⟨#[121, 97, 99, 117, 116, 101, 61, 48, 48, 70, 68, 32, 116, 104, 111, 114, 110, 61, 48, 48, 70, 69, 32, 121, 100, 105, 101, 114, 101, 115, 105, 115, 61, 48, 48, 70, 70, 32, 69, 117, 114, 111, 61, 50, 48, 65, 67, 32, 113, 117, 111, 116, 101, 115, 105, 110, 103, 108, 98, 97, 115, 101, 61, 50, 48, 49, 65, 32, 102, 108, 111, 114, 105, 110, 61, 48, 49, 57, 50]⟩ : ByteArray) [.string (⟨#[121, 97, 99, 117, 116, 101, 61, 48, 48, 70, 68, 32, 116, 104, 111, 114, 110, 61, 48, 48, 70, 69, 32, 121, 100, 105, 101, 114, 101, 115, 105, 115, 61, 48, 48, 70, 70, 32, 69, 117, 114, 111, 61, 50, 48, 65, 67, 32, 113, 117, 111, 116, 101, 115, 105, 110, 103, 108, 98, 97, 115, 101, 61, 50, 48, 49, 65, 32, 102, 108, 111, 114, 105, 110, 61, 48, 49, 57, 50]⟩ : ByteArray)] from rfl) (Reps.one (show Kd.M Kd.string _ _ _ (⟨#[113, 117, 111, 116, 101, 100, 98, 108, 98, 97, 115, 101, 61, 50, 48, 49, 69, 32, 101, 108, 108, 105, 112, 115, 105, 115, 61, 50, 48, 50, 54, 32, 100, 97, 103, 103, 101, 114, 61, 50, 48, 50, 48, 32, 100, 97, 103, 103, 101, 114, 100, 98, 108, 61, 50, 48, 50, 49, 32, 99, 105, 114, 99, 117, 109, 102, 108, 101, 120, 61, 48, 50, 67, 54, 32, 112, 101, 114, 116, 104, 111, 117, 115, 97, 110, 100, 61, 50, 48, 51, 48]⟩ : ByteArray) [.string (⟨#[113, 117, 111, 116, 101, 100, 98, 108, 98, 97, 115, 101, 61, 50, 48, 49, 69, 32, 101, 108, 108, 105, 112, 115, 105, 115, 61, 50, 48, 50, 54, 32, 100, 97, 103, 103, 101, 114, 61, 50, 48, 50, 48, 32, 100, 97, 103, 103, 101, 114, 100, 98, 108, 61, 50, 48, 50, 49, 32, 99, 105, 114, 99, 117, 109, 102, 108, 101, 120, 61, 48, 50, 67, 54, 32, 112, 101, 114, 116, 104, 111, 117, 115, 97, 110, 100, 61, 50, 48, 51, 48]⟩ : ByteArray)] from rfl) (Reps.one (show Kd.M Kd.string _ _ _ (⟨#[83, 99, 97, 114, 111, 110, 61, 48, 49, 54, 48, 32, 103, 117, 105, 108, 115, 105, 110, 103, 108, 108, 101, 102, 116, 61, 50, 48, 51, 57, 32, 79, 69, 61, 48, 49, 53, 50, 32, 90, 99, 97, 114, 111, 110, 61, 48, 49, 55, 68, 32, 113, 117, 111, 116, 101, 108, 101, 102, 116, 61, 50, 48, 49, 56, 32, 113, 117, 111, 116, 101, 114, 105, 103, 104, 116, 61, 50, 48, 49, 57]⟩ : ByteArray) [.string (⟨#[83, 99, 97, 114, 111, 110, 61, 48, 49, 54, 48, 32, 103, 117, 105, 108, 115, 105, 110, 103, 108, 108, 101, 102, 116, 61, 50, 48, 51, 57, 32, 79, 69, 61, 48, 49, 53, 50, 32, 90, 99, 97, 114, 111, 110, 61, 48, 49, 55, 68, 32, 113, 117, 111, 116, 101, 108, 101, 102, 116, 61, 50, 48, 49, 56, 32, 113, 117, 111, 116, 101, 114, 105, 103, 104, 116, 61, 50, 48, 49, 57]⟩ : ByteArray)] from rfl) (Reps.one (show Kd.M Kd.string _ _ _ (⟨#[113, 117, 111, 116, 101, 100, 98, 108, 108, 101, 102, 116, 61, 50, 48, 49, 67, 32, 113, 117, 111, 116, 101, 100, 98, 108, 114, 105, 103, 104, 116, 61, 50, 48, 49, 68, 32, 98, 117, 108, 108, 101, 116, 61, 50, 48, 50, 50, 32, 101, 110, 100, 97, 115, 104, 61, 50, 48, 49, 51, 32, 101, 109, 100, 97, 115, 104, 61, 50, 48, 49, 52, 32, 116, 105, 108, 100, 101, 61, 48, 50, 68, 67]⟩ : ByteArray) [.string (⟨#[113, 117, 111, 116, 101, 100, 98, 108, 108, 101, 102, 116, 61, 50, 48, 49, 67, 32, 113, 117, 111, 116, 101, 100, 98, 108, 114, 105, 103, 104, 116, 61, 50, 48, 49, 68, 32, 98, 117, 108, 108, 101, 116, 61, 50, 48, 50, 50, 32, 101, 110, 100, 97, 115, 104, 61, 50, 48, 49, 51, 32, 101, 109, 100, 97, 115, 104, 61, 50, 48, 49, 52, 32, 116, 105, 108, 100, 101, 61, 48, 50, 68, 67]⟩ : ByteArray)] from rfl) (Reps.one (show Kd.M Kd.string _ _ _ (⟨#[116, 114, 97, 100, 101, 109, 97, 114, 107, 61, 50, 49, 50, 50, 32, 115, 99, 97, 114, 111, 110, 61, 48, 49, 54, 49, 32, 103, 117, 105, 108, 115, 105, 110, 103, 108, 114, 105, 103, 104, 116, 61, 50, 48, 51, 65, 32, 111, 101, 61, 48, 49, 53, 51, 32, 122, 99, 97, 114, 111, 110, 61, 48, 49, 55, 69, 32, 89, 100, 105, 101, 114, 101, 115, 105, 115, 61, 48, 49, 55, 56]⟩ : ByteArray) [.string (⟨#[116, 114, 97, 100, 101, 109, 97, 114, 107, 61, 50, 49, 50, 50, 32, 115, 99, 97, 114, 111, 110, 61, 48, 49, 54, 49, 32, 103, 117, 105, 108, 115, 105, 110, 103, 108, 114, 105, 103, 104, 116, 61, 50, 48, 51, 65, 32, 111, 101, 61, 48, 49, 53, 51, 32, 122, 99, 97, 114, 111, 110, 61, 48, 49, 55, 69, 32, 89, 100, 105, 101, 114, 101, 115, 105, 115, 61, 48, 49, 55, 56]⟩ : ByteArray)] from rfl) (Reps.one (show Kd.M Kd.string _ _ _ (⟨#[102, 105, 61, 70, 66, 48, 49, 32, 102, 108, 61, 70, 66, 48, 50, 32, 102, 114, 97, 99, 116, 105, 111, 110, 61, 50, 48, 52, 52, 32, 100, 111, 116, 108, 101, 115, 115, 105, 61, 48, 49, 51, 49, 32, 76, 115, 108, 97, 115, 104, 61, 48, 49, 52, 49, 32, 108, 115, 108, 97, 115, 104, 61, 48, 49, 52, 50]⟩ : ByteArray) [.string (⟨#[102, 105, 61, 70, 66, 48, 49, 32, 102, 108, 61, 70, 66, 48, 50, 32, 102, 114, 97, 99, 116, 105, 111, 110, 61, 50, 48, 52, 52, 32, 100, 111, 116, 108, 101, 115, 115, 105, 61, 48, 49, 51, 49, 32, 76, 115, 108, 97, 115, 104, 61, 48, 49, 52, 49, 32, 108, 115, 108, 97, 115, 104, 61, 48, 49, 52, 50]⟩ : ByteArray)] from rfl) (Reps.one (show Kd.M Kd.string _ _ _ (⟨#[98, 114, 101, 118, 101, 61, 48, 50, 68, 56, 32, 99, 97, 114, 111, 110, 61, 48, 50, 67, 55, 32, 100, 111, 116, 97, 99, 99, 101, 110, 116, 61, 48, 50, 68, 57, 32, 104, 117, 110, 103, 97, 114, 117, 109, 108, 97, 117, 116, 61, 48, 50, 68, 68, 32, 111, 103, 111, 110, 101, 107, 61, 48, 50, 68, 66, 32, 114, 105, 110, 103, 61, 48, 50, 68, 65]⟩ : ByteArray) [.string (⟨#[98, 114, 101, 118, 101, 61, 48, 50, 68, 56, 32, 99, 97, 114, 111, 110, 61, 48, 50, 67, 55, 32, 100, 111, 116, 97, 99, 99, 101, 110, 116, 61, 48, 50, 68, 57, 32, 104, 117, 110, 103, 97, 114, 117, 109, 108, 97, 117, 116, 61, 48, 50, 68, 68, 32, 111, 103, 111, 110, 101, 107, 61, 48, 50, 68, 66, 32, 114, 105, 110, 103, 61, 48, 50, 68, 65]⟩ : ByteArray)] from rfl) (Reps.one (show Kd.M Kd.string _ _ _ (⟨#[109, 105, 110, 117, 115, 61, 50, 50, 49, 50, 32, 110, 111, 116, 101, 113, 117, 97, 108, 61, 50, 50, 54, 48, 32, 105, 110, 102, 105, 110, 105, 116, 121, 61, 50, 50, 49, 69, 32, 108, 101, 115, 115, 101, 113, 117, 97, 108, 61, 50, 50, 54, 52, 32, 103, 114, 101, 97, 116, 101, 114, 101, 113, 117, 97, 108, 61, 50, 50, 54, 53, 32, 112, 97, 114, 116, 105, 97, 108, 100, 105, 102, 102, 61, 50, 50, 48, 50]⟩ : ByteArray) [.string (⟨#[109, 105, 110, 117, 115, 61, 50, 50, 49, 50, 32, 110, 111, 116, 101, 113, 117, 97, 108, 61, 50, 50, 54, 48, 32, 105, 110, 102, 105, 110, 105, 116, 121, 61, 50, 50, 49, 69, 32, 108, 101, 115, 115, 101, 113, 117, 97, 108, 61, 50, 50, 54, 52, 32, 103, 114, 101, 97, 116, 101, 114, 101, 113, 117, 97, 108, 61, 50, 50, 54, 53, 32, 112, 97, 114, 116, 105, 97, 108, 100, 105, 102, 102, 61, 50, 50, 48, 50]⟩ : ByteArray)] from rfl) (Reps.one (show Kd.M Kd.string _ _ _ (⟨#[115, 117, 109, 109, 97, 116, 105, 111, 110, 61, 50, 50, 49, 49, 32, 112, 114, 111, 100, 117, 99, 116, 61, 50, 50, 48, 70, 32, 112, 105, 61, 48, 51, 67, 48, 32, 105, 110, 116, 101, 103, 114, 97, 108, 61, 50, 50, 50, 66, 32, 79, 109, 101, 103, 97, 61, 50, 49, 50, 54, 32, 114, 97, 100, 105, 99, 97, 108, 61, 50, 50, 49, 65]⟩ : ByteArray) [.string (⟨#[115, 117, 109, 109, 97, 116, 105, 111, 110, 61, 50, 50, 49, 49, 32, 112, 114, 111, 100, 117, 99, 116, 61, 50, 50, 48, 70, 32, 112, 105, 61, 48, 51, 67, 48, 32, 105, 110, 116, 101, 103, 114, 97, 108, 61, 50, 50, 50, 66, 32, 79, 109, 101, 103, 97, 61, 50, 49, 50, 54, 32, 114, 97, 100, 105, 99, 97, 108, 61, 50, 50, 49, 65]⟩ : ByteArray)] from rfl) (Reps.one (show Kd.M Kd.string _ _ _ (⟨#[97, 112, 112, 114, 111, 120, 101, 113, 117, 97, 108, 61, 50, 50, 52, 56, 32, 68, 101, 108, 116, 97, 61, 50, 50, 48, 54, 32, 108, 111, 122, 101, 110, 103, 101, 61, 50, 53, 67, 65, 32, 97, 112, 112, 108, 101, 61, 70, 56, 70, 70, 32, 65, 108, 112, 104, 97, 61, 48, 51, 57, 49, 32, 66, 101, 116, 97, 61, 48, 51, 57, 50]⟩ : ByteArray) [.string (⟨#[97, 112, 112, 114, 111, 120, 101, 113, 117, 97, 108, 61, 50, 50, 52, 56, 32, 68, 101, 108, 116, 97, 61, 50, 50, 48, 54, 32, 108, 111, 122, 101, 110, 103, 101, 61, 50, 53, 67, 65, 32, 97, 112, 112, 108, 101, 61, 70, 56, 70, 70, 32, 65, 108, 112, 104, 97, 61, 48, 51, 57, 49, 32, 66, 101, 116, 97, 61, 48, 51, 57, 50]⟩ : ByteArray)] from rfl) (Reps.one (show Kd.M Kd.string _ _ _ (⟨#[71, 97, 109, 109, 97, 61, 48, 51, 57, 51, 32, 69, 112, 115, 105, 108, 111, 110, 61, 48, 51, 57, 53, 32, 90, 101, 116, 97, 61, 48, 51, 57, 54, 32, 69, 116, 97, 61, 48, 51, 57, 55, 32, 84, 104, 101, 116, 97, 61, 48, 51, 57, 56, 32, 73, 111, 116, 97, 61, 48, 51, 57, 57]⟩ : ByteArray) [.string (⟨#[71, 97, 109, 109, 97, 61, 48, 51, 57, 51, 32, 69, 112, 115, 105, 108, 111, 110, 61, 48, 51, 57, 53, 32, 90, 101, 116, 97, 61, 48, 51, 57, 54, 32, 69, 116, 97, 61, 48, 51, 57, 55, 32, 84, 104, 101, 116, 97, 61, 48, 51, 57, 56, 32, 73, 111, 116, 97, 61, 48, 51, 57, 57]⟩ : ByteArray)] from rfl) (Reps.one (show Kd.M Kd.string _ _ _ (⟨#[75, 97, 112, 112, 97, 61, 48, 51, 57, 65, 32, 76, 97, 109, 98, 100, 97, 61, 48, 51, 57, 66, 32, 77, 117, 61, 48, 51, 57, 67, 32, 78, 117, 61, 48, 51, 57, 68, 32, 88, 105, 61, 48, 51, 57, 69, 32, 79, 109, 105, 99, 114, 111, 110, 61, 48, 51, 57, 70]⟩ : ByteArray) [.string (⟨#[75, 97, 112, 112, 97, 61, 48, 51, 57, 65, 32, 76, 97, 109, 98, 100, 97, 61, 48, 51, 57, 66, 32, 77, 117, 61, 48, 51, 57, 67, 32, 78, 117, 61, 48, 51, 57, 68, 32, 88, 105, 61, 48, 51, 57, 69, 32, 79, 109, 105, 99, 114, 111, 110, 61, 48, 51, 57, 70]⟩ : ByteArray)] from rfl) (Reps.one (show Kd.M Kd.string _ _ _ (⟨#[80, 105, 61, 48, 51, 65, 48, 32, 82, 104, 111, 61, 48, 51, 65, 49, 32, 83, 105, 103, 109, 97, 61, 48, 51, 65, 51, 32, 84, 97, 117, 61, 48, 51, 65, 52, 32, 85, 112, 115, 105, 108, 111, 110, 61, 48, 51, 65, 53, 32, 80, 104, 105, 61, 48, 51, 65, 54]⟩ : ByteArray) [.string (⟨#[80, 105, 61, 48, 51, 65, 48, 32, 82, 104, 111, 61, 48, 51, 65, 49, 32, 83, 105, 103, 109, 97, 61, 48, 51, 65, 51, 32, 84, 97, 117, 61, 48, 51, 65, 52, 32, 85, 112, 115, 105, 108, 111, 110, 61, 48, 51, 65, 53, 32, 80, 104, 105, 61, 48, 51, 65, 54]⟩ : ByteArray)] from rfl) (Reps.one (show Kd.M Kd.string _ _ _ (⟨#[67, 104, 105, 61, 48, 51, 65, 55, 32, 80, 115, 105, 61, 48, 51, 65, 56, 32, 97, 108, 112, 104, 97, 61, 48, 51, 66, 49, 32, 98, 101, 116, 97, 61, 48, 51, 66, 50, 32, 103, 97, 109, 109, 97, 61, 48, 51, 66, 51, 32, 100, 101, 108, 116, 97, 61, 48, 51, 66, 52]⟩ : ByteArray) [.string (⟨#[67, 104, 105, 61, 48, 51, 65, 55, 32, 80, 115, 105, 61, 48, 51, 65, 56, 32, 97, 108, 112, 104, 97, 61, 48, 51, 66, 49, 32, 98, 101, 116, 97, 61, 48, 51, 66, 50, 32, 103, 97, 109, 109, 97, 61, 48, 51, 66, 51, 32, 100, 101, 108, 116, 97, 61, 48, 51, 66, 52]⟩ : ByteArray)] from rfl) (Reps.one (show Kd.M Kd.string _ _ _ (⟨#[101, 112, 115, 105, 108, 111, 110, 61, 48, 51, 66, 53, 32, 122, 101, 116, 97, 61, 48, 51, 66, 54, 32, 101, 116, 97, 61, 48, 51, 66, 55, 32, 116, 104, 101, 116, 97, 61, 48, 51, 66, 56, 32, 105, 111, 116, 97, 61, 48, 51, 66, 57, 32, 107, 97, 112, 112, 97, 61, 48, 51, 66, 65]⟩ : ByteArray) [.string (⟨#[101, 112, 115, 105, 108, 111, 110, 61, 48, 51, 66, 53, 32, 122, 101, 116, 97, 61, 48, 51, 66, 54, 32, 101, 116, 97, 61, 48, 51, 66, 55, 32, 116, 104, 101, 116, 97, 61, 48, 51, 66, 56, 32, 105, 111, 116, 97, 61, 48, 51, 66, 57, 32, 107, 97, 112, 112, 97, 61, 48, 51, 66, 65]⟩ : ByteArray)] from rfl) (Reps.one (show Kd.M Kd.string _ _ _ (⟨#[108, 97, 109, 98, 100, 97, 61, 48, 51, 66, 66, 32, 110, 117, 61, 48, 51, 66, 68, 32, 120, 105, 61, 48, 51, 66, 69, 32, 111, 109, 105, 99, 114, 111, 110, 61, 48, 51, 66, 70, 32, 114, 104, 111, 61, 48, 51, 67, 49, 32, 115, 105, 103, 109, 97, 49, 61, 48, 51, 67, 50]⟩ : ByteArray) [.string (⟨#[108, 97, 109, 98, 100, 97, 61, 48, 51, 66, 66, 32, 110, 117, 61, 48, 51, 66, 68, 32, 120, 105, 61, 48, 51, 66, 69, 32, 111, 109, 105, 99, 114, 111, 110, 61, 48, 51, 66, 70, 32, 114, 104, 111, 61, 48, 51, 67, 49, 32, 115, 105, 103, 109, 97, 49, 61, 48, 51, 67, 50]⟩ : ByteArray)] from rfl) (Reps.one (show Kd.M Kd.string _ _ _ (⟨#[115, 105, 103, 109, 97, 61, 48, 51, 67, 51, 32, 116, 97, 117, 61, 48, 51, 67, 52, 32, 117, 112, 115, 105, 108, 111, 110, 61, 48, 51, 67, 53, 32, 112, 104, 105, 61, 48, 51, 67, 54, 32, 99, 104, 105, 61, 48, 51, 67, 55, 32, 112, 115, 105, 61, 48, 51, 67, 56]⟩ : ByteArray) [.string (⟨#[115, 105, 103, 109, 97, 61, 48, 51, 67, 51, 32, 116, 97, 117, 61, 48, 51, 67, 52, 32, 117, 112, 115, 105, 108, 111, 110, 61, 48, 51, 67, 53, 32, 112, 104, 105, 61, 48, 51, 67, 54, 32, 99, 104, 105, 61, 48, 51, 67, 55, 32, 112, 115, 105, 61, 48, 51, 67, 56]⟩ : ByteArray)] from rfl) (Reps.one (show Kd.M Kd.string _ _ _ (⟨#[111, 109, 101, 103, 97, 61, 48, 51, 67, 57, 32, 116, 104, 101, 116, 97, 49, 61, 48, 51, 68, 49, 32, 85, 112, 115, 105, 108, 111, 110, 49, 61, 48, 51, 68, 50, 32, 112, 104, 105, 49, 61, 48, 51, 68, 53, 32, 111, 109, 101, 103, 97, 49, 61, 48, 51, 68, 54, 32, 117, 110, 105, 118, 101, 114, 115, 97, 108, 61, 50, 50, 48, 48]⟩ : ByteArray) [.string (⟨#[111, 109, 101, 103, 97, 61, 48, 51, 67, 57, 32, 116, 104, 101, 116, 97, 49, 61, 48, 51, 68, 49, 32, 85, 112, 115, 105, 108, 111, 110, 49, 61, 48, 51, 68, 50, 32, 112, 104, 105, 49, 61, 48, 51, 68, 53, 32, 111, 109, 101, 103, 97, 49, 61, 48, 51, 68, 54, 32, 117, 110, 105, 118, 101, 114, 115, 97, 108, 61, 50, 50, 48, 48]⟩ : ByteArray)] from rfl) (Reps.one (show Kd.M Kd.string _ _ _ (⟨#[101, 120, 105, 115, 116, 101, 110, 116, 105, 97, 108, 61, 50, 50, 48, 51, 32, 115, 117, 99, 104, 116, 104, 97, 116, 61, 50, 50, 48, 66, 32, 97, 115, 116, 101, 114, 105, 115, 107, 109, 97, 116, 104, 61, 50, 50, 49, 55, 32, 99, 111, 110, 103, 114, 117, 101, 110, 116, 61, 50, 50, 52, 53, 32, 116, 104, 101, 114, 101, 102, 111, 114, 101, 61, 50, 50, 51, 52, 32, 112, 101, 114, 112, 101, 110, 100, 105, 99, 117, 108, 97, 114, 61, 50, 50, 65, 53]⟩ : ByteArray) [.string (⟨#[101, 120, 105, 115, 116, 101, 110, 116, 105, 97, 108, 61, 50, 50, 48, 51, 32, 115, 117, 99, 104, 116, 104, 97, 116, 61, 50, 50, 48, 66, 32, 97, 115, 116, 101, 114, 105, 115, 107, 109, 97, 116, 104, 61, 50, 50, 49, 55, 32, 99, 111, 110, 103, 114, 117, 101, 110, 116, 61, 50, 50, 52, 53, 32, 116, 104, 101, 114, 101, 102, 111, 114, 101, 61, 50, 50, 51, 52, 32, 112, 101, 114, 112, 101, 110, 100, 105, 99, 117, 108, 97, 114, 61, 50, 50, 65, 53]⟩ : ByteArray)] from rfl) (Reps.one (show Kd.M Kd.string _ _ _ (⟨#[115, 105, 109, 105, 108, 97, 114, 61, 50, 50, 51, 67, 32, 109, 105, 110, 117, 116, 101, 61, 50, 48, 51, 50, 32, 99, 108, 117, 98, 61, 50, 54, 54, 51, 32, 100, 105, 97, 109, 111, 110, 100, 61, 50, 54, 54, 54, 32, 104, 101, 97, 114, 116, 61, 50, 54, 54, 53, 32, 115, 112, 97, 100, 101, 61, 50, 54, 54, 48]⟩ : ByteArray) [.string (⟨#[115, 105, 109, 105, 108, 97, 114, 61, 50, 50, 51, 67, 32, 109, 105, 110, 117, 116, 101, 61, 50, 48, 51, 50, 32, 99, 108, 117, 98, 61, 50, 54, 54, 51, 32, 100, 105, 97, 109, 111, 110, 100, 61, 50, 54, 54, 54, 32, 104, 101, 97, 114, 116, 61, 50, 54, 54, 53, 32, 115, 112, 97, 100, 101, 61, 50, 54, 54, 48]⟩ : ByteArray)] from rfl) (Reps.one (show Kd.M Kd.string _ _ _ (⟨#[97, 114, 114, 111, 119, 98, 111, 116, 104, 61, 50, 49, 57, 52, 32, 97, 114, 114, 111, 119, 108, 101, 102, 116, 61, 50, 49, 57, 48, 32, 97, 114, 114, 111, 119, 117, 112, 61, 50, 49, 57, 49, 32, 97, 114, 114, 111, 119, 114, 105, 103, 104, 116, 61, 50, 49, 57, 50, 32, 97, 114, 114, 111, 119, 100, 111, 119, 110, 61, 50, 49, 57, 51, 32, 115, 101, 99, 111, 110, 100, 61, 50, 48, 51, 51]⟩ : ByteArray) [.string (⟨#[97, 114, 114, 111, 119, 98, 111, 116, 104, 61, 50, 49, 57, 52, 32, 97, 114, 114, 111, 119, 108, 101, 102, 116, 61, 50, 49, 57, 48, 32, 97, 114, 114, 111, 119, 117, 112, 61, 50, 49, 57, 49, 32, 97, 114, 114, 111, 119, 114, 105, 103, 104, 116, 61, 50, 49, 57, 50, 32, 97, 114, 114, 111, 119, 100, 111, 119, 110, 61, 50, 49, 57, 51, 32, 115, 101, 99, 111, 110, 100, 61, 50, 48, 51, 51]⟩ : ByteArray)] from rfl) (Reps.one (show Kd.M Kd.string _ _ _ (⟨#[112, 114, 111, 112, 111, 114, 116, 105, 111, 110, 97, 108, 61, 50, 50, 49, 68, 32, 101, 113, 117, 105, 118, 97, 108, 101, 110, 99, 101, 61, 50, 50, 54, 49, 32, 97, 108, 101, 112, 104, 61, 50, 49, 51, 53, 32, 73, 102, 114, 97, 107, 116, 117, 114, 61, 50, 49, 49, 49, 32, 82, 102, 114, 97, 107, 116, 117, 114, 61, 50, 49, 49, 67, 32, 119, 101, 105, 101, 114, 115, 116, 114, 97, 115, 115, 61, 50, 49, 49, 56]⟩ : ByteArray) [.string (⟨#[112, 114, 111, 112, 111, 114, 116, 105, 111, 110, 97, 108, 61, 50, 50, 49, 68, 32, 101, 113, 117, 105, 118, 97, 108, 101, 110, 99, 101, 61, 50, 50, 54, 49, 32, 97, 108, 101, 112, 104, 61, 50, 49, 51, 53, 32, 73, 102, 114, 97, 107, 116, 117, 114, 61, 50, 49, 49, 49, 32, 82, 102, 114, 97, 107, 116, 117, 114, 61, 50, 49, 49, 67, 32, 119, 101, 105, 101, 114, 115, 116, 114, 97, 115, 115, 61, 50, 49, 49, 56]⟩ : ByteArray)] from rfl) (Reps.one (show Kd.M Kd.string _ _ _ (⟨#[99, 105, 114, 99, 108, 101, 109, 117, 108, 116, 105, 112, 108, 121, 61, 50, 50, 57, 55, 32, 99, 105, 114, 99, 108, 101, 112, 108, 117, 115, 61, 50, 50, 57, 53, 32, 101, 109, 112, 116, 121, 115, 101, 116, 61, 50, 50, 48, 53, 32, 105, 110, 116, 101, 114, 115, 101, 99, 116, 105, 111, 110, 61, 50, 50, 50, 57, 32, 117, 110, 105, 111, 110, 61, 50, 50, 50, 65, 32, 112, 114, 111, 112, 101, 114, 115, 117, 112, 101, 114, 115, 101, 116, 61, 50, 50, 56, 51]⟩ : ByteArray) [.string (⟨#[99, 105, 114, 99, 108, 101, 109, 117, 108, 116, 105, 112, 108, 121, 61, 50, 50, 57, 55, 32, 99, 105, 114, 99, 108, 101, 112, 108, 117, 115, 61, 50, 50, 57, 53, 32, 101, 109, 112, 116, 121, 115, 101, 116, 61, 50, 50, 48, 53, 32, 105, 110, 116, 101, 114, 115, 101, 99, 116, 105, 111, 110, 61, 50, 50, 50, 57, 32, 117, 110, 105, 111, 110, 61, 50, 50, 50, 65, 32, 112, 114, 111, 112, 101, 114, 115, 117, 112, 101, 114, 115, 101, 116, 61, 50, 50, 56, 51]⟩ : ByteArray)] from rfl) (Reps.one (show Kd.M Kd.string _ _ _ (⟨#[114, 101, 102, 108, 101, 120, 115, 117, 112, 101, 114, 115, 101, 116, 61, 50, 50, 56, 55, 32, 110, 111, 116, 115, 117, 98, 115, 101, 116, 61, 50, 50, 56, 52, 32, 112, 114, 111, 112, 101, 114, 115, 117, 98, 115, 101, 116, 61, 50, 50, 56, 50, 32, 114, 101, 102, 108, 101, 120, 115, 117, 98, 115, 101, 116, 61, 50, 50, 56, 54, 32, 101, 108, 101, 109, 101, 110, 116, 61, 50, 50, 48, 56, 32, 110, 111, 116, 101, 108, 101, 109, 101, 110, 116, 61, 50, 50, 48, 57]⟩ : ByteArray) [.string (⟨#[114, 101, 102, 108, 101, 120, 115, 117, 112, 101, 114, 115, 101, 116, 61, 50, 50, 56, 55, 32, 110, 111, 116, 115, 117, 98, 115, 101, 116, 61, 50, 50, 56, 52, 32, 112, 114, 111, 112, 101, 114, 115, 117, 98, 115, 101, 116, 61, 50, 50, 56, 50, 32, 114, 101, 102, 108, 101, 120, 115, 117, 98, 115, 101, 116, 61, 50, 50, 56, 54, 32, 101, 108, 101, 109, 101, 110, 116, 61, 50, 50, 48, 56, 32, 110, 111, 116, 101, 108, 101, 109, 101, 110, 116, 61, 50, 50, 48, 57]⟩ : ByteArray)] from rfl) (Reps.one (show Kd.M Kd.string _ _ _ (⟨#[97, 110, 103, 108, 101, 61, 50, 50, 50, 48, 32, 103, 114, 97, 100, 105, 101, 110, 116, 61, 50, 50, 48, 55, 32, 100, 111, 116, 109, 97, 116, 104, 61, 50, 50, 67, 53, 32, 108, 111, 103, 105, 99, 97, 108, 97, 110, 100, 61, 50, 50, 50, 55, 32, 108, 111, 103, 105, 99, 97, 108, 111, 114, 61, 50, 50, 50, 56, 32, 97, 114, 114, 111, 119, 100, 98, 108, 98, 111, 116, 104, 61, 50, 49, 68, 52]⟩ : ByteArray) [.string (⟨#[97, 110, 103, 108, 101, 61, 50, 50, 50, 48, 32, 103, 114, 97, 100, 105, 101, 110, 116, 61, 50, 50, 48, 55, 32, 100, 111, 116, 109, 97, 116, 104, 61, 50, 50, 67, 53, 32, 108, 111, 103, 105, 99, 97, 108, 97, 110, 100, 61, 50, 50, 50, 55, 32, 108, 111, 103, 105, 99, 97, 108, 111, 114, 61, 50, 50, 50, 56, 32, 97, 114, 114, 111, 119, 100, 98, 108, 98, 111, 116, 104, 61, 50, 49, 68, 52]⟩ : ByteArray)] from rfl) (Reps.one (show Kd.M Kd.string _ _ _ (⟨#[97, 114, 114, 111, 119, 100, 98, 108, 108, 101, 102, 116, 61, 50, 49, 68, 48, 32, 97, 114, 114, 111, 119, 100, 98, 108, 117, 112, 61, 50, 49, 68, 49, 32, 97, 114, 114, 111, 119, 100, 98, 108, 114, 105, 103, 104, 116, 61, 50, 49, 68, 50, 32, 97, 114, 114, 111, 119, 100, 98, 108, 100, 111, 119, 110, 61, 50, 49, 68, 51, 32, 97, 110, 103, 108, 101, 108, 101, 102, 116, 61, 50, 51, 50, 57, 32, 97, 110, 103, 108, 101, 114, 105, 103, 104, 116, 61, 50, 51, 50, 65]⟩ : ByteArray) [.string (⟨#[97, 114, 114, 111, 119, 100, 98, 108, 108, 101, 102, 116, 61, 50, 49, 68, 48, 32, 97, 114, 114, 111, 119, 100, 98, 108, 117, 112, 61, 50, 49, 68, 49, 32, 97, 114, 114, 111, 119, 100, 98, 108, 114, 105, 103, 104, 116, 61, 50, 49, 68, 50, 32, 97, 114, 114, 111, 119, 100, 98, 108, 100, 111, 119, 110, 61, 50, 49, 68, 51, 32, 97, 110, 103, 108, 101, 108, 101, 102, 116, 61, 50, 51, 50, 57, 32, 97, 110, 103, 108, 101, 114, 105, 103, 104, 116, 61, 50, 51, 50, 65]⟩ : ByteArray)] from rfl) (Reps.one (show Kd.M Kd.string _ _ _ (⟨#[100, 97, 108, 101, 116, 104, 97, 116, 97, 102, 112, 97, 116, 97, 104, 61, 48, 53, 68, 51, 44, 48, 53, 66, 50, 32, 102, 102, 61, 70, 66, 48, 48, 32, 102, 102, 105, 61, 70, 66, 48, 51, 32, 102, 102, 108, 61, 70, 66, 48, 52, 32, 65, 109, 97, 99, 114, 111, 110, 61, 48, 49, 48, 48, 32, 97, 109, 97, 99, 114, 111, 110, 61, 48, 49, 48, 49]⟩ : ByteArray) [.string (⟨#[100, 97, 108, 101, 116, 104, 97, 116, 97, 102, 112, 97, 116, 97, 104, 61, 48, 53, 68, 51, 44, 48, 53, 66, 50, 32, 102, 102, 61, 70, 66, 48, 48, 32, 102, 102, 105, 61, 70, 66, 48, 51, 32, 102, 102, 108, 61, 70, 66, 48, 52, 32, 65, 109, 97, 99, 114, 111, 110, 61, 48, 49, 48, 48, 32, 97, 109, 97, 99, 114, 111, 110, 61, 48, 49, 48, 49]⟩ : ByteArray)] from rfl) (Reps.one (show Kd.M Kd.string _ _ _ (⟨#[65, 98, 114, 101, 118, 101, 61, 48, 49, 48, 50, 32, 97, 98, 114, 101, 118, 101, 61, 48, 49, 48, 51, 32, 76, 99, 111, 109, 109, 97, 97, 99, 99, 101, 110, 116, 61, 48, 49, 51, 66]⟩ : ByteArray) [.string (⟨#[65, 98, 114, 101, 118, 101, 61, 48, 49, 48, 50, 32, 97, 98, 114, 101, 118, 101, 61, 48, 49, 48, 51, 32, 76, 99, 111, 109, 109, 97, 97, 99, 99, 101, 110, 116, 61, 48, 49, 51, 66]⟩ : ByteArray)] from rfl) (Reps.none _ _))))))))))))))))))))))))))))))); intro v113 w1 ho2 hb hg_ hnew_; clear hg_ hnew_; (first | rw [← Ny112.out] at ho2 | (simp only [Int.reduceToNat] at ho2; rw [← Ny112.out] at ho2)); have n0_ := Aside0.mk (Kd.R_lower ho2 (below_size (by repeat (first | (with_reducible first | exact HB.out | apply below_alloc | apply pw_below_drewN | apply below_drew1) | exact HB.out)))); have n1_ := Aside0.mk (below_step (by repeat (first | (with_reducible first | exact HB.out | apply below_alloc | apply pw_below_drewN | apply below_drew1) | exact HB.out)) hb); clear HB; have HO114 := n0_; have HB := n1_; clear n0_ n1_; clear hb ho2))
  go_ret
  exact ⟨_, by first | rfl | (simp [errW_none, errW_some] <;> rfl) | (simp [*, errW_none, errW_some] <;> rfl), by (with_reducible repeat (first | apply Kd.R_alloc | apply Kd.R_drewN | apply Kd.R_drew)); exact HO114.out, by repeat (first | (with_reducible first | exact HB.out | apply below_alloc | apply pw_below_drewN | apply below_drew1) | exact HB.out)⟩
end Go.Proofs.YtniehnkiicliaaaDoor.M
end
section
/- Laid by this session's program hbprint.py out of the translation: the function hornbook/glyph.list and its contract. -/
namespace Go.Proofs.YtniehnkiicliaaaDoor.M
open Go.RowKit Go.Proofs.YtniehnkiicliaaaDoorW.PrintWords Go.Proofs.YtniehnkiicliaaaDoorW.PrintLast Go.Proofs.YtniehnkiicliaaaDoorW.PrintMore
attribute [local go_sem] max2_int min2_int max_two min_two max_three min_three max_four min_four
set_option linter.unusedVariables false
set_option linter.unusedSimpArgs false
def glyph_list.f (k : Nat)  : Option (ByteArray) := (glyph_part1.f).bind fun t115 => ((glyph_part2.f).bind fun t118 => ((slices_Concat_string_string.f k (([t115, t118] : List (List ByteArray)))).bind fun t124 => ((strings_Join.f t124 (⟨#[32]⟩ : ByteArray)).bind fun t127 => (if 1 + t127.size ≤ 9223372036854775807 then (if ((⟨#[32]⟩ : ByteArray) ++ t127).size + 1 ≤ 9223372036854775807 then (some (((⟨#[32]⟩ : ByteArray) ++ t127) ++ (⟨#[32]⟩ : ByteArray))) else (none)) else (none)))))
theorem glyph_list.mono : ∀ k, LeO (glyph_list.f k ) (glyph_list.f (k + 1) ) := by
  intro  k
  unfold glyph_list.f
  repeat' first
      | (with_reducible exact slices_Concat_string_string.mono _ _)
      | (with_reducible exact LeO.refl _)
      | (with_reducible exact LeO.none _)
      | (with_reducible refine LeO.ite ?_ ?_)
      | (with_reducible refine LeO.bind ?_ (fun _ => ?_))
      | exact slices_Concat_string_string.mono _ _
      | exact LeO.none _
      | refine LeO.ite ?_ ?_
      | refine LeO.bind ?_ (fun _ => ?_)
set_option maxHeartbeats 8000000 in
set_option maxRecDepth 100000 in
theorem glyph_list.calls (k : Nat)  (r : ByteArray) (w : World) (h : glyph_list.f k  = some r) :
    Calls Tryd.prog 38 #[] w fun e w' => e = .returned (.string r) ∧ Below w.heap.size w w' := by
  have HB := Aside0.mk (Below.refl w.heap.size w)
  have H : ((glyph_part1.f).bind fun t115 => ((glyph_part2.f).bind fun t118 => ((slices_Concat_string_string.f k (([t115, t118] : List (List ByteArray)))).bind fun t124 => ((strings_Join.f t124 (⟨#[32]⟩ : ByteArray)).bind fun t127 => (if 1 + t127.size ≤ 9223372036854775807 then (if ((⟨#[32]⟩ : ByteArray) ++ t127).size + 1 ≤ 9223372036854775807 then (some (((⟨#[32]⟩ : ByteArray) ++ t127) ++ (⟨#[32]⟩ : ByteArray))) else (none)) else (none)))))) = some r := h
  clear h
  replace H := Option.bind_eq_some_iff.mp H
  obtain ⟨t115, A10, H⟩ := H
  replace H : ((glyph_part2.f).bind fun t118 => ((slices_Concat_string_string.f k (([t115, t118] : List (List ByteArray)))).bind fun t124 => ((strings_Join.f t124 (⟨#[32]⟩ : ByteArray)).bind fun t127 => (if 1 + t127.size ≤ 9223372036854775807 then (if ((⟨#[32]⟩ : ByteArray) ++ t127).size + 1 ≤ 9223372036854775807 then (some (((⟨#[32]⟩ : ByteArray) ++ t127) ++ (⟨#[32]⟩ : ByteArray))) else (none)) else (none))))) = some r := H
  have A1 := Aside0.mk A10
  clear A10
  replace H := Option.bind_eq_some_iff.mp H
  obtain ⟨t118, A20, H⟩ := H
  replace H : ((slices_Concat_string_string.f k (([t115, t118] : List (List ByteArray)))).bind fun t124 => ((strings_Join.f t124 (⟨#[32]⟩ : ByteArray)).bind fun t127 => (if 1 + t127.size ≤ 9223372036854775807 then (if ((⟨#[32]⟩ : ByteArray) ++ t127).size + 1 ≤ 9223372036854775807 then (some (((⟨#[32]⟩ : ByteArray) ++ t127) ++ (⟨#[32]⟩ : ByteArray))) else (none)) else (none)))) = some r := H
  have A2 := Aside0.mk A20
  clear A20
  obtain ⟨y121, hy121⟩ : ∃ y_ : List (List ByteArray), y_ = (([t115, t118] : List (List ByteArray))) := ⟨_, rfl⟩
  replace H : ((slices_Concat_string_string.f k y121).bind fun t124 => ((strings_Join.f t124 (⟨#[32]⟩ : ByteArray)).bind fun t127 => (if 1 + t127.size ≤ 9223372036854775807 then (if ((⟨#[32]⟩ : ByteArray) ++ t127).size + 1 ≤ 9223372036854775807 then (some (((⟨#[32]⟩ : ByteArray) ++ t127) ++ (⟨#[32]⟩ : ByteArray))) else (none)) else (none)))) = some r := by first | (rw [hy121]; with_reducible exact H) | (have H2_ := (Option.bind_some _ _).symm.trans H; rw [hy121]; with_reducible exact H2_) | (have H2_ := (Option.bind_some _ _).symm.trans H; with_reducible exact H2_) | with_reducible exact H | (rw [hy121]; exact H) | exact H
  have Ny121 := Aside0.mk hy121
  clear hy121
  replace H := Option.bind_eq_some_iff.mp H
  obtain ⟨t124, A30, H⟩ := H
  replace H : ((strings_Join.f t124 (⟨#[32]⟩ : ByteArray)).bind fun t127 => (if 1 + t127.size ≤ 9223372036854775807 then (if ((⟨#[32]⟩ : ByteArray) ++ t127).size + 1 ≤ 9223372036854775807 then (some (((⟨#[32]⟩ : ByteArray) ++ t127) ++ (⟨#[32]⟩ : ByteArray))) else (none)) else (none))) = some r := H
  have A3 := Aside0.mk A30
  clear A30
  replace H := Option.bind_eq_some_iff.mp H
  obtain ⟨t127, A40, H⟩ := H
  replace H : (if 1 + t127.size ≤ 9223372036854775807 then (if ((⟨#[32]⟩ : ByteArray) ++ t127).size + 1 ≤ 9223372036854775807 then (some (((⟨#[32]⟩ : ByteArray) ++ t127) ++ (⟨#[32]⟩ : ByteArray))) else (none)) else (none)) = some r := H
  have A4 := Aside0.mk A40
  clear A40
  by_cases c5 : 1 + t127.size ≤ 9223372036854775807
  · rw [if_pos c5] at H
    have c5b0 := eq_true c5
    have c5b1 : decide (1 + t127.size ≤ 9223372036854775807) = true := decide_eq_true c5
    try have c5b2 : (9223372036854775807 < 1 + t127.size) = False := eq_false (Nat.not_lt.2 c5)
    by_cases c6 : ((⟨#[32]⟩ : ByteArray) ++ t127).size + 1 ≤ 9223372036854775807
    · rw [if_pos c6] at H
      have c6b0 := eq_true c6
      have c6b1 : decide (((⟨#[32]⟩ : ByteArray) ++ t127).size + 1 ≤ 9223372036854775807) = true := decide_eq_true c6
      try have c6b2 : (9223372036854775807 < ((⟨#[32]⟩ : ByteArray) ++ t127).size + 1) = False := eq_false (Nat.not_lt.2 c6)
      try have c6b9 : (9223372036854775807 < (1 + t127.size) + 1) = False := eq_false (Nat.not_lt.2 (by have h_ := c6; (repeat rw [ByteArray.size_append] at h_); exact h_))
      obtain rfl := Option.some.inj H
      go_enter Tryd.func38, Tryd.ntmps38
      go_wp2_with (first | ((with_reducible refine gate_callee (f := 58) rfl ?_); refine goesL_ (some 1) rfl rfl Tryd.func58 (by kernel_rfl) rfl #[] rfl (by (try simp only [List.map_toArray, List.map_cons, List.map_nil]); first | done | rfl | (simp only [List.length_drop, List.length_take]; rfl)) ?_; (with_reducible refine (glyph_part1.calls  t115 _ A1.out).mono ?_); rintro e w7 ⟨v116, rfl, ho0, hb⟩; refine ⟨_, rfl, ?_⟩; have n0_ := Aside0.mk (Kd.R_lower ho0 (below_size (by repeat (first | (with_reducible first | exact HB.out | apply below_alloc | apply pw_below_drewN | apply below_drew1) | exact HB.out)))); have n1_ := Aside0.mk (below_step (by repeat (first | (with_reducible first | exact HB.out | apply below_alloc | apply pw_below_drewN | apply below_drew1) | exact HB.out)) hb); clear HB; have HO117 := n0_; have HB := n1_; clear n0_ n1_; (try clear hb); (try clear hb2); (try clear hk); (try clear hi); (try clear ho0)) | ((with_reducible refine gate_callee (f := 59) rfl ?_); refine goesL_ (some 2) rfl rfl Tryd.func59 (by kernel_rfl) rfl #[] rfl (by (try simp only [List.map_toArray, List.map_cons, List.map_nil]); first | done | rfl | (simp only [List.length_drop, List.length_take]; rfl)) ?_; (with_reducible refine (glyph_part2.calls  t118 _ A2.out).mono ?_); rintro e w8 ⟨v119, rfl, ho0, hb⟩; refine ⟨_, rfl, ?_⟩; have n0_ := Aside0.mk (Kd.R_elder' (by (with_reducible repeat (first | apply Kd.R_alloc | apply Kd.R_drewN | apply Kd.R_drew)); exact HO117.out) (Kd.R_base ho0) hb); have n1_ := Aside0.mk (Kd.R_lower (Kd.R_new' ho0 (Kd.R_lt (by (with_reducible repeat (first | apply Kd.R_alloc | apply Kd.R_drewN | apply Kd.R_drew)); exact HO117.out))) (below_size (by repeat (first | (with_reducible first | exact HB.out | apply below_alloc | apply pw_below_drewN | apply below_drew1) | exact HB.out)))); have n2_ := Aside0.mk (below_step (by repeat (first | (with_reducible first | exact HB.out | apply below_alloc | apply pw_below_drewN | apply below_drew1) | exact HB.out)) hb); clear HO117; clear HB; have HO117 := n0_; have HO120 := n1_; have HB := n2_; clear n0_ n1_ n2_; (try clear hb); (try clear hb2); (try clear hk); (try clear hi); (try clear ho0); obtain ⟨Ao9, co9, eo9⟩ := Kd.R_slice HO117.out; subst eo9; obtain ⟨Ao10, co10, eo10⟩ := Kd.R_slice HO120.out; subst eo10) | ((with_reducible refine gate_dst (N := 3) rfl ?_); refine Kd.N_lit (Kd.slice 9 Kd.string) _ 28 ?hg (N' := 3) ?hd (xs := ([t115, t118] : List (List ByteArray))) (inner := [.slice Ao9 t115.length co9, .slice Ao10 t118.length co10]) (ok := (fun _ => True)) (okp := (fun _ => True)) ?hr ?hp (fun _ hk => hk) ((show ∀ k_, w8.heap.size ≤ k_ → (fun _ => True) k_ from fun k_ hk => trivial) _ (Nat.le_refl _)) (Below.refl _ _) (Nat.le_refl _) (by simp) ?_; (case hd => rfl); (case hg => rfl); (case hr => first | (go_simp; done) | (go_simp; rfl)); (case hp => exact (Reps.one (show Kd.FK (Kd.slice 9 Kd.string) _ _ t115 [.slice Ao9 t115.length co9] from (Kd.FK_slice_mk (Kd.R_reads' (Kd.R_mono (ok' := (fun _ => True)) (HO117.out) (fun k_ hk => trivial))).2.1 (Kd.R_F (Kd.R_mono (ok' := (fun _ => True)) (HO117.out) (fun k_ hk => trivial))))) (Reps.one (show Kd.FK (Kd.slice 9 Kd.string) _ _ t118 [.slice Ao10 t118.length co10] from (Kd.FK_slice_mk (Kd.R_reads' (Kd.R_mono (ok' := (fun _ => True)) (HO120.out) (fun k_ hk => trivial))).2.1 (Kd.R_F (Kd.R_mono (ok' := (fun _ => True)) (HO120.out) (fun k_ hk => trivial))))) (Reps.none _ _)))); intro v122 w11 ho12 hb hg_ hnew_; clear hg_ hnew_; (first | rw [← Ny121.out] at ho12 | (simp only [Int.reduceToNat] at ho12; rw [← Ny121.out] at ho12)); have n0_ := Aside0.mk (Kd.N_lower ho12 (below_size (by repeat (first | (with_reducible first | exact HB.out | apply below_alloc | apply pw_below_drewN | apply below_drew1) | exact HB.out)))); have n1_ := Aside0.mk (below_step (by repeat (first | (with_reducible first | exact HB.out | apply below_alloc | apply pw_below_drewN | apply below_drew1) | exact HB.out)) hb); clear HB; clear HO117; clear HO120; have HO123 := n0_; have HB := n1_; clear n0_ n1_; clear hb ho12; obtain ⟨Ao13, co13, eo13⟩ := Kd.N_slice HO123.out; subst eo13) | ((with_reducible refine gate_callee (f := 57) rfl ?_); refine goesL_ (some 4) rfl rfl Tryd.func57 (by kernel_rfl) rfl #[.slice Ao13 y121.length co13] rfl (by (try simp only [List.map_toArray, List.map_cons, List.map_nil]); first | done | rfl | (simp only [List.length_drop, List.length_take]; rfl)) ?_; (with_reducible refine (slices_Concat_string_string.calls k _ _ y121 t124 _ ?side1 ?side2 A3.out).mono ?_); (case side1 => repeat (first | exact (Kd.N_reads' HO123.out).2.2 | (with_reducible refine Kd.C_alloc ?_ _) | (with_reducible refine Kd.C_drewN ?_ _) | (with_reducible refine Kd.C_drew ?_))); (case side2 => exact (Kd.N_reads' HO123.out).2.1); rintro e w14 ⟨v125, rfl, ho0, hb⟩; refine ⟨_, rfl, ?_⟩; have n0_ := Aside0.mk (Kd.N_elder' (by (with_reducible repeat (first | apply Kd.N_alloc | apply Kd.N_drewN | apply Kd.N_drew)); exact HO123.out) (Kd.R_base ho0) hb); have n1_ := Aside0.mk (Kd.R_lower ho0 (below_size (by repeat (first | (with_reducible first | exact HB.out | apply below_alloc | apply pw_below_drewN | apply below_drew1) | exact HB.out)))); have n2_ := Aside0.mk (below_step (by repeat (first | (with_reducible first | exact HB.out | apply below_alloc | apply pw_below_drewN | apply below_drew1) | exact HB.out)) hb); clear HO123; clear HB; have HO123 := n0_; have HO126 := n1_; have HB := n2_; clear n0_ n1_ n2_; (try clear hb); (try clear hb2); (try clear hk); (try clear hi); (try clear ho0); obtain ⟨Ao15, co15, eo15⟩ := Kd.R_slice HO126.out; subst eo15) | ((with_reducible refine gate_callee (f := 56) rfl ?_); refine goesL_ (some 5) rfl rfl Tryd.func56 (by kernel_rfl) rfl #[.slice Ao15 t124.length co15, .string (⟨#[32]⟩ : ByteArray)] rfl (by (try simp only [List.map_toArray, List.map_cons, List.map_nil]); first | done | rfl | (simp only [List.length_drop, List.length_take]; rfl)) ?_; (with_reducible refine (strings_Join.calls _ _ t124 (⟨#[32]⟩ : ByteArray) t127 _ ?side1 ?side2 A4.out).mono ?_); (case side1 => repeat (first | exact (Kd.R_reads' HO126.out).2.2 | (with_reducible refine Kd.C_alloc ?_ _) | (with_reducible refine Kd.C_drewN ?_ _) | (with_reducible refine Kd.C_drew ?_))); (case side2 => exact (Kd.R_reads' HO126.out).2.1); rintro e w16 ⟨rfl, hb⟩; refine ⟨_, rfl, ?_⟩; have n0_ := Aside0.mk (Kd.N_below (by (with_reducible repeat (first | apply Kd.N_alloc | apply Kd.N_drewN | apply Kd.N_drew)); exact HO123.out) hb); have n1_ := Aside0.mk (Kd.R_below (by (with_reducible repeat (first | apply Kd.R_alloc | apply Kd.R_drewN | apply Kd.R_drew)); exact HO126.out) hb); have n2_ := Aside0.mk (below_step (by repeat (first | (with_reducible first | exact HB.out | apply below_alloc | apply pw_below_drewN | apply below_drew1) | exact HB.out)) hb); clear HO123; clear HO126; clear HB; have HO123 := n0_; have HO126 := n1_; have HB := n2_; clear n0_ n1_ n2_; (try clear hb); (try clear hb2); (try clear hk); (try clear hi)))
      go_ret
      exact ⟨by first | rfl | (simp [errW_none, errW_some] <;> rfl) | (simp [*, errW_none, errW_some] <;> rfl), by repeat (first | (with_reducible first | exact HB.out | apply below_alloc | apply pw_below_drewN | apply below_drew1) | exact HB.out)⟩
    · rw [if_neg c6] at H
      exact absurd H (by simp)
  · rw [if_neg c5] at H
    exact absurd H (by simp)
end Go.Proofs.YtniehnkiicliaaaDoor.M
end
section
namespace Go.Proofs.YtniehnkiicliaaaDoor.M
open Go.RowKit Go.Proofs.YtniehnkiicliaaaDoorW.PrintWords
set_option linter.unusedVariables false
theorem le_rounds {α : Type} {g : Nat → Option α} (hm : ∀ k, LeO (g k) (g (k + 1))) {k : Nat} {r : α} (h : g k = some r) : ∀ {m : Nat}, k ≤ m → g m = some r := by
  intro m hk
  induction m with
  | zero => obtain rfl : k = 0 := by omega
            exact h
  | succ m ih =>
    by_cases e : k = m + 1
    · subst e; exact h
    · exact hm m r (ih (by omega))
theorem ba_eta (a : ByteArray) : a = ⟨a.data.toList.toArray⟩ := by cases a; rfl
theorem toList_data (a : ByteArray) : a.toList = a.data.toList := ByteArray.toList_eq a
theorem ext_from (a : ByteArray) (i : Nat) : a.extract i a.size = ⟨(a.data.toList.drop i).toArray⟩ := by
  rw [ba_eta (a.extract i a.size), Lib.extract_to_end]
theorem ba_size (l : List UInt8) : (⟨l.toArray⟩ : ByteArray).size = l.length := by show l.toArray.size = _; simp
theorem ba_list (l : List UInt8) : (⟨l.toArray⟩ : ByteArray).data.toList = l := by simp
theorem ext_mid (s : ByteArray) (i j : Nat) : s.extract i j = ⟨((s.data.toList.drop i).take (j - i)).toArray⟩ := by
  rw [ba_eta (s.extract i j), Lib.extract_data]
theorem wrap_small {x : Int} (h0 : 0 ≤ x) (h1 : x < 9223372036854775808) : wrap64 x = x := by unfold wrap64; omega
end Go.Proofs.YtniehnkiicliaaaDoor.M
end
section
namespace Go.Proofs.YtniehnkiicliaaaDoor.M
open Go.RowKit Go.Shelf Go.Proofs.YtniehnkiicliaaaDoorW.PrintWords
set_option linter.unusedVariables false
set_option linter.unusedSimpArgs false
attribute [local go_sem] Oper.semAt_some
/-- The parts of a text between a byte. -/
def splitB (c : UInt8) : List UInt8 → List UInt8 → List (List UInt8)
  | [], w => [w]
  | x :: r, w => if x = c then w :: splitB c r [] else splitB c r (w ++ [x])
def partsOf (c : UInt8) (s : List UInt8) : List ByteArray := (splitB c s []).map fun l => ⟨l.toArray⟩
theorem splitB_index (c : UInt8) : ∀ (l w : List UInt8), splitB c l w = if Lib.indexByte l c = -1 then [w ++ l] else (w ++ l.take (Lib.indexByte l c).toNat) :: splitB c (l.drop ((Lib.indexByte l c).toNat + 1)) []
  | [], w => by simp [splitB, Lib.indexByte]
  | x :: r, w => by
    have hge := Lib.indexByte_ge r c
    by_cases h : x = c
    · simp [splitB, Lib.indexByte, h]
    · have hb : (x == c) = false := by simpa using h
      simp only [splitB, if_neg h, Lib.indexByte, hb, Bool.false_eq_true, if_false]
      rw [splitB_index c r (w ++ [x])]
      by_cases hn : Lib.indexByte r c = -1
      · rw [if_pos hn, if_pos (by simp [hn])]; simp
      · have hb2 : (Lib.indexByte r c == -1) = false := by simpa using hn
        rw [if_neg hn, hb2]
        simp only [Bool.false_eq_true, if_false]
        rw [if_neg (by omega)]
        have e : (Lib.indexByte r c + 1).toNat = (Lib.indexByte r c).toNat + 1 := by omega
        rw [e]
        simp
theorem indexByte_lt (c : UInt8) : ∀ l : List UInt8, Lib.indexByte l c < l.length
  | [] => by simp [Lib.indexByte]
  | x :: r => by
    have := indexByte_lt c r
    simp only [Lib.indexByte, List.length_cons]
    split
    · omega
    · split <;> omega
def strLeft (b : Nat) (W : World) : Nat := match W.cell? ⟨b, 0, none⟩ with
  | some (.string x) => x.size
  | _ => 0
theorem splitSeq_in (l bs bp bv : Nat) (c : UInt8) (s : ByteArray) (hsz : s.size ≤ 1000000) (h1 : bs ≠ bp) (h2 : bs ≠ bv) (J : List ByteArray → World → Prop)
    (hset : ∀ pre W v, J pre W → J pre (W.setCell ⟨bs, 0, none⟩ v))
    (hY : ∀ pre x W, J pre W → x ∈ partsOf c s.data.toList → pre.length < (partsOf c s.data.toList).length → YieldAt Fence.wide 0 Tryd.prog l #[.string x] W fun e W' =>
      e = .returned (.bool true) ∧ J (pre ++ [x]) W' ∧ W'.heap[bs]? = W.heap[bs]? ∧ W'.heap[bp]? = W.heap[bp]? ∧ W'.heap[bv]? = W.heap[bv]?)
    (W : World) (hbs : W.heap[bs]? = some (.cells #[.string s] 9 (0, 0))) (hbp : W.heap[bp]? = some (.cells #[.string ⟨#[c]⟩] 9 (0, 0))) (hbv : W.heap[bv]? = some (.cells #[.int .i64 0] 3 (0, 0))) (h0 : J [] W) :
    CallsIn Fence.wide 1 Tryd.prog 95 #[.func (.yield l) #[] #[], .pointer (some ⟨bp, 0, none⟩), .pointer (some ⟨bs, 0, none⟩), .pointer (some ⟨bv, 0, none⟩)] W fun e W' => (∃ v, e = .returned v) ∧ J (partsOf c s.data.toList) W' := by
  have hc1 : W.cell? ⟨bp, 0, none⟩ = some (.string ⟨#[c]⟩) := by simp [World.cell?, hbp]
  have hc2 : W.cell? ⟨bs, 0, none⟩ = some (.string s) := by simp [World.cell?, hbs]
  have hc3 : W.cell? ⟨bv, 0, none⟩ = some (.int .i64 0) := by simp [World.cell?, hbv]
  refine callsIn_of_wp Tryd.func95 rfl trivial ?_ rfl
  simp only [Tryd.ntmps95, List.size_toArray, List.length_cons, List.length_nil, Nat.reduceAdd, Nat.reduceSub, Array.replicate_succ, Array.replicate_zero, List.push_toArray, List.append_toArray, List.nil_append, List.cons_append]
  gi_wp2
  gi_loopw [7] (fun _ wr => ∃ (pre : List ByteArray) (cur : List UInt8), cur.length ≤ 1000000 ∧ Aside0 (partsOf c s.data.toList = pre ++ partsOf c cur) ∧ Aside0 (wr.heap[bs]? = some (.cells #[.string ⟨cur.toArray⟩] 9 (0, 0))) ∧ Aside0 (wr.heap[bp]? = some (.cells #[.string ⟨#[c]⟩] 9 (0, 0))) ∧ Aside0 (wr.heap[bv]? = some (.cells #[.int .i64 0] 3 (0, 0))) ∧ Aside0 (J pre wr))
    (fun _ wr => strLeft bs wr)
  case atStart => exact ⟨[], s.data.toList, hsz, ⟨rfl⟩, ⟨hbs⟩, ⟨hbp⟩, ⟨hbv⟩, ⟨h0⟩⟩
  case round =>
    clear hc1 hc2 hc3
    obtain ⟨pre, cur, hcl, HP, HS, HB, HV, HJ⟩ := hrel
    have hc1 : wr.cell? ⟨bp, 0, none⟩ = some (.string ⟨#[c]⟩) := by simp [World.cell?, HB.out]
    have hc2 : wr.cell? ⟨bs, 0, none⟩ = some (.string ⟨cur.toArray⟩) := by simp [World.cell?, HS.out]
    have hc3 : wr.cell? ⟨bv, 0, none⟩ = some (.int .i64 0) := by simp [World.cell?, HV.out]
    have hsp := splitB_index c cur []
    have hge := Lib.indexByte_ge cur c
    have hlt := indexByte_lt c cur
    have hY' : ∀ x : ByteArray, x ∈ partsOf c cur → YieldAt Fence.wide 0 Tryd.prog l #[.string x] wr fun e W' =>
        e = .returned (.bool true) ∧ J (pre ++ [x]) W' ∧ W'.heap[bs]? = wr.heap[bs]? ∧ W'.heap[bp]? = wr.heap[bp]? ∧ W'.heap[bv]? = wr.heap[bv]? :=
      fun x hx => hY pre x wr HJ.out (by rw [HP.out]; exact List.mem_append_right _ hx) (by have := List.length_pos_of_mem hx; rw [HP.out, List.length_append]; omega)
    have HIDX : Aside0 (Calls Tryd.prog 97 #[.string ⟨cur.toArray⟩, .string ⟨#[c]⟩] wr fun e w' => e = .returned (.int .i64 (Lib.indexByte cur c)) ∧ w' = wr) := ⟨by simpa using Tryd.strings_Index_one ⟨cur.toArray⟩ c wr⟩
    by_cases hn : Lib.indexByte cur c = -1
    · have hp1 : partsOf c cur = [⟨cur.toArray⟩] := by unfold partsOf; rw [hsp, if_pos hn]; rfl
      obtain ⟨fn, tmps, assign, body, hy, hR⟩ := hY' ⟨cur.toArray⟩ (by rw [hp1]; exact List.mem_singleton.2 rfl)
      have HY := Aside0.mk hY'
      have HR := Aside0.mk hR
      have HPP := Aside0.mk hp1
      clear hY' hR hp1 hsp
      rw [hn] at HIDX
      gi_wp2_with (fail)
      refine ⟨trivial, ?_⟩
      refine (callsIn_wide.2 HIDX.out).mono ?_
      rintro e W1 ⟨rfl, hw⟩
      rw [hw]
      clear hw
      gi_wp2_with (fail)
      refine HR.out.mono ?_
      rintro e W2 ⟨rfl, hJ2, -⟩
      have HJ2 := Aside0.mk hJ2
      clear hJ2
      gi_wp2
      go_end0
      exact ⟨⟨_, rfl⟩, by rw [HP.out, HPP.out]; exact HJ2.out⟩
    · obtain ⟨q, hq⟩ : ∃ q : Nat, Lib.indexByte cur c = (q : Int) := ⟨(Lib.indexByte cur c).toNat, by omega⟩
      have hql : q < cur.length := by omega
      rw [if_neg hn, hq, Int.toNat_natCast, List.nil_append] at hsp
      have hx1 : (⟨cur.toArray⟩ : ByteArray).extract 0 q = ⟨(cur.take q).toArray⟩ := by rw [ext_mid]; simp
      have hx2 : (⟨cur.toArray⟩ : ByteArray).extract (q + 1) cur.length = ⟨(cur.drop (q + 1)).toArray⟩ := by rw [← ba_size cur, ext_from]
      have hp1 : partsOf c cur = ⟨(cur.take q).toArray⟩ :: partsOf c (cur.drop (q + 1)) := by unfold partsOf; rw [hsp]; rfl
      obtain ⟨fn, tmps, assign, body, hy, hR⟩ := hY' ((⟨cur.toArray⟩ : ByteArray).extract 0 q) (by rw [hp1, hx1]; exact List.mem_cons_self)
      have HY := Aside0.mk hY'
      have HR := Aside0.mk hR
      have HPP := Aside0.mk hp1
      have HX1 := Aside0.mk hx1
      have HX2 := Aside0.mk hx2
      rw [hq] at HIDX
      have hsz2 : (⟨cur.toArray⟩ : ByteArray).size = cur.length := ba_size cur
      have HSZ := Aside0.mk hsz2
      clear hY' hR hp1 hsp hx1 hx2 hn hge hlt hq
      gi_wp2_with (fail)
      refine ⟨trivial, ?_⟩
      refine (callsIn_wide.2 HIDX.out).mono ?_
      rintro e W1 ⟨rfl, hw⟩
      rw [hw]
      clear hw
      gi_wp2_with (fail)
      refine HR.out.mono ?_
      rintro e W2 ⟨rfl, hJ2, k1, k2, k3⟩
      rw [HX1.out] at hJ2
      have HJ2 := Aside0.mk hJ2
      have HS2 := Aside0.mk (k1.trans HS.out)
      have HB2 := Aside0.mk (k2.trans HB.out)
      have HV2 := Aside0.mk (k3.trans HV.out)
      clear hJ2 k1 k2 k3 hc1 hc2 hc3
      have hc1 : W2.cell? ⟨bp, 0, none⟩ = some (.string ⟨#[c]⟩) := by simp [World.cell?, HB2.out]
      have hc2 : W2.cell? ⟨bs, 0, none⟩ = some (.string ⟨cur.toArray⟩) := by simp [World.cell?, HS2.out]
      have hf2 : W2.frozen? ⟨bs, 0, none⟩ = false := by simp [World.frozen?, HS2.out]
      gi_wp2
      rw [HX2.out]
      refine ⟨⟨pre ++ [⟨(cur.take q).toArray⟩], cur.drop (q + 1), by rw [List.length_drop]; omega, ⟨by rw [HP.out, HPP.out]; simp⟩, ⟨one_setCell HS2.out⟩, ⟨(heap_setCell_other _ _ _ _ (fun e => h1 e.symm)).trans HB2.out⟩, ⟨(heap_setCell_other _ _ _ _ (fun e => h2 e.symm)).trans HV2.out⟩, ⟨hset _ _ _ HJ2.out⟩⟩, ?_⟩
      have m1 : strLeft bs (W2.setCell ⟨bs, 0, none⟩ (.string ⟨(cur.drop (q + 1)).toArray⟩)) = (cur.drop (q + 1)).length := by
        unfold strLeft
        rw [World.cell?_setCell_same' _ _ _ (by rw [hc2]; rfl)]
        exact ba_size _
      have m2 : strLeft bs wr = cur.length := by
        unfold strLeft
        rw [show wr.cell? ⟨bs, 0, none⟩ = some (.string ⟨cur.toArray⟩) by simp [World.cell?, HS.out]]
        exact ba_size _
      rw [m1, m2, List.length_drop]
      omega
end Go.Proofs.YtniehnkiicliaaaDoor.M
end
section
namespace Go.Proofs.YtniehnkiicliaaaDoor.M
open Go.RowKit Go.Proofs.YtniehnkiicliaaaDoorW.PrintWords
set_option linter.unusedVariables false
set_option linter.unusedSimpArgs false
def hexD (c : UInt8) : Nat := if c.toNat ≤ 57 then c.toNat - 48 else c.toNat - 55
def isHexU (c : UInt8) : Bool := decide (48 ≤ c.toNat ∧ c.toNat ≤ 57) || decide (65 ≤ c.toNat ∧ c.toNat ≤ 70)
def hexFold : Nat → List UInt8 → Nat
  | acc, [] => acc
  | acc, c :: l => hexFold (acc * 16 + hexD c) l
def hexNum (l : List UInt8) : Nat := hexFold 0 l
theorem hexD_lt (c : UInt8) (h : isHexU c = true) : hexD c < 16 := by
  simp only [isHexU, Bool.or_eq_true, decide_eq_true_eq] at h
  unfold hexD
  split <;> omega
theorem hexFold_lt : ∀ (l : List UInt8) (acc n : Nat), l.all isHexU = true → acc < 16 ^ n → hexFold acc l < 16 ^ (n + l.length)
  | [], acc, n, _, h => by rw [hexFold]; simpa using h
  | c :: l, acc, n, ha, h => by
    simp only [List.all_cons, Bool.and_eq_true] at ha
    have h1 := hexD_lt c ha.1
    rw [hexFold, List.length_cons, show n + (l.length + 1) = (n + 1) + l.length by omega]
    exact hexFold_lt l _ (n + 1) ha.2 (by rw [Nat.pow_succ]; omega)
theorem or32 (c : Nat) (h0 : 65 ≤ c) (h1 : c ≤ 70) : Go.bits .or .u8 (c : Int) 32 = ((c + 32 : Nat) : Int) := by
  have h : ∀ n : Fin 6, Go.bits .or .u8 ((65 + n.val : Nat) : Int) 32 = ((65 + n.val + 32 : Nat) : Int) := by decide
  have := h ⟨c - 65, by omega⟩
  rw [show 65 + (c - 65) = c by omega] at this
  exact this
theorem lower_same (c : Nat) (h0 : 65 ≤ c) (h1 : c ≤ 70) (w : World) :
    Calls Tryd.prog 109 #[.int .u8 (c : Int)] w fun e w' => e = .returned (.int .u8 ((c : Int) + 32)) ∧ w = w' := by
  have hor := or32 c h0 h1
  have e : ((c + 32 : Nat) : Int) = (c : Int) + 32 := by omega
  rw [e] at hor
  have h2 : (c : Int) + 32 < 256 := by omega
  go_enter Tryd.func109, Tryd.ntmps109
  go_wp2
  go_ret
  exact ⟨rfl, rfl⟩
set_option maxHeartbeats 4000000 in
set_option maxRecDepth 100000 in
theorem ParseUint_hex (t : ByteArray) (h1 : 1 ≤ t.size) (h7 : t.size ≤ 7) (hx : t.data.toList.all isHexU = true) (w : World) :
    Calls Tryd.prog 98 #[.string t, .int .i64 16, .int .i64 32] w fun e w' => e = .returned (.tuple #[.int .u64 (hexNum t.data.toList : Int), .nilIface]) ∧ Below w.heap.size w w' := by
  have hemp : t.toList.isEmpty = false := by
    rw [← decide_eq_emptyBytes]
    exact decide_eq_false (fun h => by rw [h] at h1; exact absurd h1 (by decide))
  have hcv := Lib.run_convert_string_bytes (P := Tryd.prog) w 9 42 5 t (u := .string) Tryd.underlying9 Tryd.underlying42 Tryd.underlying5
  have hB : ∀ j, j < t.size → (Lib.bytesWorld w 5 t).cell? ⟨w.heap.size, j, none⟩ = some (.int .u8 (t.data.toList.getD j 0).toNat) := fun j hj => Lib.bytesWorld_cell w 5 t j hj
  have HBW : Aside0 (Below w.heap.size w (Lib.bytesWorld w 5 t)) := ⟨bytes_below (Below.refl _ w) (Nat.le_refl _) 5 t⟩
  obtain ⟨W1, hW1⟩ : ∃ W1, W1 = Lib.bytesWorld w 5 t := ⟨_, rfl⟩
  rw [← hW1] at hcv hB HBW
  clear hW1
  obtain ⟨bs, hL⟩ : ∃ bs, bs = t.data.toList := ⟨_, rfl⟩
  have hLn : bs.length = t.size := by rw [hL, Lib.size_eq]
  rw [← hL] at hB hx ⊢
  have HX := Aside0.mk hx
  have HB := Aside0.mk hB
  clear hL hx hB
  have hmv : IntKind.u64.wrap (IntKind.u64.wrap 4294967296 - 1) = 4294967295 := by
    rw [IntKind.wrap_u64, IntKind.wrap_u64]
    decide
  go_enter Tryd.func98, Tryd.ntmps98
  go_wp2
  go_loop [12, 13, 101] (fun vu vn vi => ∃ (k acc : Nat) (a : Int), vu = .bool false ∧ vn = .int .u64 a ∧ vi = .int .i64 k ∧ k ≤ t.size ∧ Aside0 (a = (acc : Int) ∧ acc < 16 ^ k ∧ hexNum bs = hexFold acc (bs.drop k)))
    (fun _ _ vi => t.size - (intOf vi).toNat)
  case atStart => exact ⟨0, 0, 0, rfl, rfl, rfl, by omega, ⟨rfl, by decide, rfl⟩⟩
  case round =>
    obtain ⟨k, acc, a, rfl, rfl, rfl, hk, hh⟩ := hrel
    obtain ⟨ha, hacc, hdec⟩ := hh.out
    clear hh
    by_cases hkn : k < t.size
    · have hc := HB.out k hkn
      have hdrop : bs.drop k = bs[k]'(by omega) :: bs.drop (k + 1) := List.drop_eq_getElem_cons (by omega)
      have hget : bs.getD k 0 = bs[k]'(by omega) := by simp [List.getD, List.getElem?_eq_getElem (show k < bs.length by omega)]
      have hcx : isHexU (bs[k]'(by omega)) = true := List.all_eq_true.1 HX.out _ (List.getElem_mem _)
      rw [hdrop, hexFold] at hdec
      rw [hget] at hc
      generalize bs[k]'(by omega) = c at hc hdec hcx
      have hc256 : c.toNat < 256 := c.toNat_lt
      have hlt : acc < 268435456 := Nat.lt_of_lt_of_le hacc (Nat.le_trans (Nat.pow_le_pow_right (by decide) (show k ≤ 7 by omega)) (by decide))
      have hacc2 : acc * 16 + hexD c < 16 ^ (k + 1) := by have := hexD_lt c hcx; rw [Nat.pow_succ]; omega
      have hd := hexD_lt c hcx
      simp only [isHexU, Bool.or_eq_true, decide_eq_true_eq] at hcx
      have a0 : 0 ≤ a := by omega
      have a1 : a < 268435456 := by omega
      clear hdrop hget
      rcases hcx with hdig | hdig
      · obtain ⟨hd0, hd1⟩ := hdig
        have hD : hexD c = c.toNat - 48 := by unfold hexD; rw [if_pos hd1]
        have HN : Aside0 (a * 16 + ((c.toNat : Int) - 48) = ((acc * 16 + hexD c : Nat) : Int) ∧ acc * 16 + hexD c < 16 ^ (k + 1) ∧ hexNum bs = hexFold (acc * 16 + hexD c) (bs.drop (k + 1))) := ⟨by omega, hacc2, hdec⟩
        clear hacc hdec ha hacc2 hD hd hlt
        go_wp2
        refine ⟨⟨k + 1, acc * 16 + hexD c, a * 16 + ((c.toNat : Int) - 48), rfl, (by first | rfl | (congr 1; omega)), (by first | rfl | (congr 1; omega)), by omega, HN⟩, by simp [intOf]; omega⟩
      · obtain ⟨hd0, hd1⟩ := hdig
        have hD : hexD c = c.toNat - 55 := by unfold hexD; rw [if_neg (by omega)]
        have HN : Aside0 (a * 16 + ((c.toNat : Int) - 55) = ((acc * 16 + hexD c : Nat) : Int) ∧ acc * 16 + hexD c < 16 ^ (k + 1) ∧ hexNum bs = hexFold (acc * 16 + hexD c) (bs.drop (k + 1))) := ⟨by omega, hacc2, hdec⟩
        have hor := or32 c.toNat hd0 hd1
        clear hacc hdec ha hacc2 hD hd hlt
        have HLOW := Aside0.mk (lower_same c.toNat hd0 hd1)
        clear hor
        go_wp2_with (go_at_call 109; refine (HLOW.out _).mono ?_; rintro e W2 ⟨rfl, rfl⟩)
        refine ⟨⟨k + 1, acc * 16 + hexD c, a * 16 + ((c.toNat : Int) - 55), rfl, (by first | rfl | (congr 1; omega)), (by first | rfl | (congr 1; omega)), by omega, HN⟩, by simp [intOf]; omega⟩
    · have hkk : k = t.size := by omega
      subst hkk
      have hF : hexFold acc (bs.drop t.size) = acc := by rw [List.drop_eq_nil_of_le (by omega)]; rfl
      rw [hF] at hdec
      subst ha
      clear hacc hF
      go_wp2
      go_ret2
      exact ⟨rfl, HBW.out⟩
end Go.Proofs.YtniehnkiicliaaaDoor.M
end
section
namespace Go.Proofs.YtniehnkiicliaaaDoor.M
open Go.RowKit Go.Proofs.YtniehnkiicliaaaDoorW.PrintWords
set_option linter.unusedVariables false
set_option linter.unusedSimpArgs false
theorem hexNum_lt (l : List UInt8) (h7 : l.length ≤ 7) (hx : l.all isHexU = true) : hexNum l < 268435456 := by
  have h := hexFold_lt l 0 0 hx (by decide)
  rw [Nat.zero_add] at h
  exact Nat.lt_of_lt_of_le h (Nat.le_trans (Nat.pow_le_pow_right (by decide) h7) (by decide))
set_option maxHeartbeats 4000000 in
set_option maxRecDepth 100000 in
theorem ParseIntI_hex (t : ByteArray) (h1 : 1 ≤ t.size) (h7 : t.size ≤ 7) (hx : t.data.toList.all isHexU = true) (w : World) :
    Calls Tryd.prog 81 #[.string t, .int .i64 16, .int .i64 32] w fun e w' => e = .returned (.tuple #[.int .i64 (hexNum t.data.toList : Int), .nilIface]) ∧ Below w.heap.size w w' := by
  have hl := hexNum_lt t.data.toList h7 hx
  have h0 : 0 < t.size := by omega
  have HU := Aside0.mk (ParseUint_hex t h1 h7 hx w)
  obtain ⟨x, hxe⟩ : ∃ x : Int, x = (hexNum t.data.toList : Int) := ⟨_, rfl⟩
  rw [← hxe] at HU ⊢
  have hx0 : 0 ≤ x := by omega
  have hx1 : x < 268435456 := by omega
  have hemp : t.toList.isEmpty = false := by
    rw [← decide_eq_emptyBytes]
    exact decide_eq_false (fun h => by rw [h] at h1; exact absurd h1 (by decide))
  have hc := List.all_eq_true.1 hx (t.data.toList[0]'h0) (List.getElem_mem _)
  have hc2 : t[0]'h0 = t.data.toList[0]'h0 := rfl
  rw [← hc2] at hc
  have h43 : ((t[0]'h0).toNat : Int) ≠ 43 := by
    simp only [isHexU, Bool.or_eq_true, decide_eq_true_eq] at hc
    omega
  have h45 : ((t[0]'h0).toNat : Int) ≠ 45 := by
    simp only [isHexU, Bool.or_eq_true, decide_eq_true_eq] at hc
    omega
  have b43 : (((t[0]'h0).toNat : Int) == 43) = false := by simpa using h43
  have b45 : (((t[0]'h0).toNat : Int) == 45) = false := by simpa using h45
  have hcut : IntKind.u64.wrap 2147483648 = 2147483648 := by decide
  clear hx hc hc2 h43 h45 hl hxe
  go_enter Tryd.func81, Tryd.ntmps81
  go_wp2_with fail
  refine HU.out.mono ?_
  rintro e W1 ⟨rfl, hb⟩
  have HB := Aside0.mk hb
  clear hb
  go_wp2
  go_ret2
  exact ⟨rfl, HB.out⟩
set_option maxHeartbeats 4000000 in
set_option maxRecDepth 100000 in
theorem ParseInt_hex (t : ByteArray) (h1 : 1 ≤ t.size) (h7 : t.size ≤ 7) (hx : t.data.toList.all isHexU = true) (w : World) :
    Calls Tryd.prog 61 #[.string t, .int .i64 16, .int .i64 32] w fun e w' => e = .returned (.tuple #[.int .i64 (hexNum t.data.toList : Int), .nilIface]) ∧ Below w.heap.size w w' := by
  have HU := Aside0.mk (ParseIntI_hex t h1 h7 hx w)
  obtain ⟨x, hxe⟩ : ∃ x : Int, x = (hexNum t.data.toList : Int) := ⟨_, rfl⟩
  rw [← hxe] at HU ⊢
  clear hxe hx
  go_enter Tryd.func61, Tryd.ntmps61
  go_wp2_with fail
  refine HU.out.mono ?_
  rintro e W1 ⟨rfl, hb⟩
  have HB := Aside0.mk hb
  clear hb
  go_wp2
  go_ret2
  exact ⟨rfl, HB.out⟩
end Go.Proofs.YtniehnkiicliaaaDoor.M
end
section
namespace Go.Proofs.YtniehnkiicliaaaDoor.M
open Go Go.RowKit Go.Proofs.YtniehnkiicliaaaDoorW.PrintWords
set_option linter.unusedVariables false
set_option linter.unusedSimpArgs false
theorem wpIn_range_own {P : Program} {n : Nat} {g : Operand} {p : Tmp} {assign body : Code} {Q : Exit → Act → World → Prop} {a : Act} {w : World} {gf : Nat} {lb : Array Value}
    (hg : a.eval g = .func (.func gf) #[] lb) (eg : ∀ args w, (callFunc gf args).run P w = .ok (.enter gf args) w)
    (xs : List ByteArray) (bs : Nat) (hbs : bs < w.heap.size) (keep : World → World → Prop) (hkt : ∀ {A B C : World}, keep A B → keep B C → keep A C) (hkput : ∀ (A : World) (o : Obj), keep A (A.putObj (w.heap.size + 1) o))
    (hseq : ∀ (J : List ByteArray → World → Prop) (W : World), (∀ pre A v, J pre A → J pre (A.setCell ⟨bs, 0, none⟩ v)) →
      (∀ pre x A, J pre A → x ∈ xs → pre.length < xs.length → YieldAt Fence.wide 0 P (w.heap.size + 1) #[.string x] A fun e W' => e = .returned (.bool true) ∧ J (pre ++ [x]) W' ∧ keep A W') →
      (∀ k, k < w.heap.size → W.heap[k]? = w.heap[k]?) → J [] W → CallsIn Fence.wide (n - 1) P gf (#[.func (.yield (w.heap.size + 1)) #[] #[]] ++ lb) W fun e W' => (∃ v, e = .returned v) ∧ J xs W')
    (I : List ByteArray → World → Prop) (hIput : ∀ pre (A : World) o, I pre A → I pre (A.putObj (w.heap.size + 1) o)) (hIset : ∀ pre (A : World) v, I pre A → I pre (A.setCell ⟨bs, 0, none⟩ v))
    (h0 : ∀ o, I [] ((w.alloc (.deferred (some []))).alloc o)) (a₁ : ByteArray → Act)
    (hassign : ∀ (l : Nat) (x : ByteArray) (W : World) (K : Act → World → Prop), K (a₁ x) W → assign.wpIn (Fence.wide.inRound l) 0 P (Exit.then K (fun _ _ _ => False)) { tmps := (#[p].zip #[Value.string x]).foldl (fun t (p, v) => t.setIfInBounds p v) a.tmps, defers := [] } W)
    (hbody : ∀ (l : Nat) (pre : List ByteArray) (x : ByteArray) (A : World), I pre A → x ∈ xs → pre.length < xs.length → w.heap.size + 2 ≤ A.heap.size → body.wpIn (Fence.wide.inRound l) 0 P (fun e _ W' => e = .normal ∧ I (pre ++ [x]) W' ∧ keep A W' ∧ W'.heap[w.heap.size + 1]? = A.heap[w.heap.size + 1]? ∧ W'.heap[w.heap.size]? = A.heap[w.heap.size]?) (a₁ x) A)
    (hdone : ∀ (W : World), I xs W → W.heap[w.heap.size]? = some (.deferred (some [])) → Q .normal { a with defers := { target := .collected w.heap.size, args := #[] } :: a.defers } W) :
    (Code.rangeFunc g #[p] assign body).wpIn Fence.wide n P Q a w := by
  refine wpIn_rangeFunc ?_
  intro fn hfn
  obtain ⟨rec, hrec⟩ : ∃ rec : LoopState → Option Code → Loop, rec = fun st pe => { state := st, pending := pe, fn, tmps := a.tmps, params := #[p], assign, body, defers := w.heap.size } := ⟨_, rfl⟩
  obtain ⟨W1, hW1⟩ : ∃ W1, (w.alloc (.deferred (some []))).alloc (.loop (rec .ready none)) = W1 := ⟨_, rfl⟩
  have hL1 : W1.heap[w.heap.size + 1]? = some (.loop (rec .ready none)) := by
    rw [← hW1]; have := World.alloc_heap_new (w.alloc (.deferred (some []))) (.loop (rec .ready none)); rwa [World.size_alloc] at this
  have hK1 : W1.heap[w.heap.size]? = some (.deferred (some [])) := by
    rw [← hW1]; exact (Below.heap_alloc _ _ _ (by simp)).trans (World.alloc_heap_new w _)
  have hlow : ∀ k, k < w.heap.size → W1.heap[k]? = w.heap[k]? := by
    intro k hk
    rw [← hW1, Below.heap_alloc _ _ _ (by simp; omega), Below.heap_alloc _ _ _ hk]
  refine ⟨w.heap.size + 1, [{ target := .collected w.heap.size, args := #[] }], W1, { target := .fn (.func gf) lb, args := #[.func (.yield (w.heap.size + 1)) #[] #[]] }, W1, gf,
    #[.func (.yield (w.heap.size + 1)) #[] #[]] ++ lb, W1, ?_, ?_, fun _ _ => trivial, ?_, fun h => by simp [Fence.wide] at h, ?_⟩
  · rw [← hW1, hrec]; exact run_enterLoop_outer _ _ _ _ _
  · simp only [resolve, hg]
    simp [go_sem]
  · simp [invoke, go_sem, eg]
  · refine (hseq (fun pre W => I pre W ∧ W.heap[w.heap.size + 1]? = some (.loop (rec .ready none)) ∧ W.heap[w.heap.size]? = some (.deferred (some []))) W1
      (fun pre A v hh => ⟨hIset pre A v hh.1, (Below.heap_setCell A _ v _ (by show w.heap.size + 1 ≠ bs; omega)).trans hh.2.1, (Below.heap_setCell A _ v _ (by show w.heap.size ≠ bs; omega)).trans hh.2.2⟩)
      ?_ hlow ⟨by rw [← hW1]; exact h0 _, hL1, hK1⟩).mono ?_
    · rintro pre x W ⟨hi, hl, hk⟩ hx hxl
      have hlt : w.heap.size + 1 < W.heap.size := (Array.getElem?_eq_some_iff.1 hl).1
      have hy := run_yield (P := P) (args := #[.string x]) hl (by rw [hrec]; rfl)
      rw [hrec] at hy
      refine ⟨fn, _, assign, body, hy, roundIn_of_wpIn hfn ?_⟩
      refine hassign _ x W _ ⟨_, run_beginRound hl (by rw [hrec]), ?_⟩
      have hl2 : (W.putObj (w.heap.size + 1) (.loop { rec .ready none with state := .busy })).heap[w.heap.size + 1]? = some (.loop { rec .ready none with state := .busy }) := World.putObj_heap_same hlt
      have hk2 : (W.putObj (w.heap.size + 1) (.loop { rec .ready none with state := .busy })).heap[w.heap.size]? = some (.deferred (some [])) := (World.putObj_heap_other (by omega)).trans hk
      refine wpIn_mono (hbody _ pre x _ (hIput _ _ _ hi) hx hxl (by rw [World.putObj_size]; omega)) ?_
      rintro e a3 W3 ⟨rfl, hi3, hkp3, hl3, hk3⟩
      have hl4 := hl3.trans hl2
      have hr := run_endRound (P := P) none hl4
      refine ⟨_, _, hr, rfl, ⟨hIput _ _ _ hi3, ?_, (World.putObj_heap_other (by omega)).trans (hk3.trans hk2)⟩, hkt (hkt (hkput W _) hkp3) (hkput W3 _)⟩
      rw [World.putObj_heap_same (Array.getElem?_eq_some_iff.1 hl4).1, hrec]
      rfl
    · rintro e W2 ⟨⟨v, rfl⟩, hi, hl, hk⟩
      exact ⟨none, _, by have := run_endLoop (P := P) hl (by rw [hrec]; simp); rw [hrec] at this; exact this, hdone _ (hIput _ _ _ hi) ((World.putObj_heap_other (by omega)).trans hk)⟩
end Go.Proofs.YtniehnkiicliaaaDoor.M
end
section
namespace Go.Proofs.YtniehnkiicliaaaDoor.M
open Go.RowKit Go.Shelf Go.Proofs.YtniehnkiicliaaaDoorW.PrintWords Go.Proofs.YtniehnkiicliaaaDoorW.PrintLast
set_option linter.unusedVariables false
set_option linter.unusedSimpArgs false
attribute [local go_sem] Oper.semAt_some
def isPart (p : ByteArray) : Bool := decide (1 ≤ p.size) && decide (p.size ≤ 7) && p.data.toList.all isHexU
def glyph_values.f (a0 : ByteArray) : Option (List Int) := if a0.size ≤ 1000000 ∧ (partsOf 44 a0.data.toList).all isPart = true then some ((partsOf 44 a0.data.toList).map fun p => (hexNum p.data.toList : Int)) else none
theorem SplitSeq_calls (s : ByteArray) (c : UInt8) (W : World) :
    Calls Tryd.prog 60 #[.string s, .string ⟨#[c]⟩] W fun e W' => e = .returned (.func (.func 95) #[] #[.pointer (some ⟨W.heap.size + 1, 0, none⟩), .pointer (some ⟨W.heap.size, 0, none⟩), .pointer (some ⟨W.heap.size + 2, 0, none⟩)]) ∧
      W' = ((W.alloc (.cells #[.string s] 9)).alloc (.cells #[.string ⟨#[c]⟩] 9)).alloc (.cells #[.int .i64 0] 3) := by
  have h80 : Calls Tryd.prog 80 #[.string s, .string ⟨#[c]⟩, .int .i64 0] W fun e W' => e = .returned (.func (.func 95) #[] #[.pointer (some ⟨W.heap.size + 1, 0, none⟩), .pointer (some ⟨W.heap.size, 0, none⟩), .pointer (some ⟨W.heap.size + 2, 0, none⟩)]) ∧
      W' = ((W.alloc (.cells #[.string s] 9)).alloc (.cells #[.string ⟨#[c]⟩] 9)).alloc (.cells #[.int .i64 0] 3) := by
    go_enter Tryd.func80, Tryd.ntmps80
    go_wp2
    go_ret
    exact ⟨rfl, rfl⟩
  have H80 := Aside0.mk h80
  clear h80
  go_enter Tryd.func60, Tryd.ntmps60
  go_wp2_with fail
  refine H80.out.mono ?_
  rintro e W' ⟨rfl, hW⟩
  rw [hW]
  clear hW
  go_wp2
  go_ret
  exact ⟨rfl, rfl⟩
theorem splitB_len (c : UInt8) : ∀ (s w : List UInt8), (splitB c s w).length ≤ s.length + 1
  | [], w => by simp [splitB]
  | x :: r, w => by
    have h1 := splitB_len c r []
    have h2 := splitB_len c r (w ++ [x])
    simp only [splitB, List.length_cons]
    split
    · simp only [List.length_cons]; omega
    · omega
theorem partsOf_length (c : UInt8) (s : ByteArray) (h : s.size ≤ 1000000) : (partsOf c s.data.toList).length ≤ 1000001 := by
  unfold partsOf
  rw [List.length_map]
  have := splitB_len c s.data.toList []
  have e : s.data.toList.length = s.size := rfl
  omega
set_option maxRecDepth 100000 in
set_option maxHeartbeats 1000000 in
theorem glyph_values.calls (a0 : ByteArray) (r : List Int) (w : World) (h : glyph_values.f a0 = some r) :
    Calls Tryd.prog 39 #[.string a0] w fun e w' => ∃ v0_ : Value, e = .returned (v0_) ∧ Kd.R (Kd.int .i64) 3 w' w.heap.size (fun _ => True) v0_ r ∧ Below w.heap.size w w' := by
  unfold glyph_values.f at h
  split at h
  case isFalse => cases h
  rename_i hb
  obtain ⟨hb1, hb2⟩ := hb
  replace h := Option.some.inj h
  have HR := Aside0.mk h
  have HB2 := Aside0.mk hb2
  clear h hb2
  have HSP := Aside0.mk (fun W => callsIn_wide (n := 2).2 (SplitSeq_calls a0 44 W))
  refine (callsIn_wide (n := 3)).1 ?_
  refine callsIn_of_wp_marks Tryd.func39 rfl trivial ?_ rfl
  simp only [Tryd.ntmps39, List.size_toArray, List.length_cons, List.length_nil, Nat.reduceAdd, Nat.reduceSub, Array.replicate_succ, Array.replicate_zero, List.push_toArray, List.append_toArray, List.nil_append, List.cons_append]
  gi_wp2_with fail
  refine ⟨trivial, ?_⟩
  refine (HSP.out _).mono ?_
  rintro e W1 ⟨rfl, hw⟩
  rw [hw]
  clear hw HSP
  gi_wp2_with fail
  obtain ⟨w4, hw4⟩ : ∃ w4, ((((w.alloc (Obj.cells #[Value.slice none 0 0] 33)).alloc (Obj.cells #[Value.string a0] 9)).alloc (Obj.cells #[Value.string ⟨#[44]⟩] 9)).alloc (Obj.cells #[Value.int IntKind.i64 0] 3)) = w4 := ⟨_, rfl⟩
  have hs4 : w4.heap.size = w.heap.size + 4 := by rw [← hw4]; simp
  have hb4 : Below w.heap.size w w4 := by rw [← hw4]; exact below_alloc (below_alloc (below_alloc (below_alloc (Below.refl _ w) _) _) _) _
  have g0 : w4.heap[w.heap.size]? = some (.cells #[.slice none 0 0] 33 (0, 0)) := by
    rw [← hw4, Below.heap_alloc _ _ _ (by simp only [World.size_alloc]; omega), Below.heap_alloc _ _ _ (by simp only [World.size_alloc]; omega), Below.heap_alloc _ _ _ (by simp only [World.size_alloc]; omega)]; exact World.alloc_heap_new w _
  have g1 : w4.heap[w.heap.size + 1]? = some (.cells #[.string a0] 9 (0, 0)) := by
    rw [← hw4, Below.heap_alloc _ _ _ (by simp only [World.size_alloc]; omega), Below.heap_alloc _ _ _ (by simp only [World.size_alloc]; omega)]
    have := World.alloc_heap_new (w.alloc (Obj.cells #[Value.slice none 0 0] 33)) (Obj.cells #[Value.string a0] 9)
    rwa [World.size_alloc] at this
  have g2 : w4.heap[w.heap.size + 2]? = some (.cells #[.string ⟨#[44]⟩] 9 (0, 0)) := by
    rw [← hw4, Below.heap_alloc _ _ _ (by simp only [World.size_alloc]; omega)]
    have := World.alloc_heap_new ((w.alloc (Obj.cells #[Value.slice none 0 0] 33)).alloc (Obj.cells #[Value.string a0] 9)) (Obj.cells #[Value.string ⟨#[44]⟩] 9)
    rwa [World.size_alloc, World.size_alloc] at this
  have g3 : w4.heap[w.heap.size + 3]? = some (.cells #[.int .i64 0] 3 (0, 0)) := by
    rw [← hw4]
    have := World.alloc_heap_new (((w.alloc (Obj.cells #[Value.slice none 0 0] 33)).alloc (Obj.cells #[Value.string a0] 9)).alloc (Obj.cells #[Value.string ⟨#[44]⟩] 9)) (Obj.cells #[Value.int IntKind.i64 0] 3)
    rwa [World.size_alloc, World.size_alloc, World.size_alloc] at this
  rw [hw4]
  have HG0 := Aside0.mk g0
  have HG1 := Aside0.mk g1
  have HG2 := Aside0.mk g2
  have HG3 := Aside0.mk g3
  have HB4 := Aside0.mk hb4
  clear g0 g1 g2 g3 hb4 hw4
  have hinfo : (Tryd.prog.info? 3).map (fun i => (i.zero, i.size, i.bytes)) = some (some (.int .i64 0), 1, 8) := by kernel_rfl
  obtain ⟨i0, hi, hz0, hz1, hz2⟩ := info_parts hinfo
  clear hinfo
  have hpl : (partsOf 44 a0.data.toList).length ≤ 1000001 := partsOf_length 44 a0 hb1
  refine wpIn_range_own (gf := 95) (lb := #[.pointer (some ⟨w.heap.size + 1 + 1, 0, none⟩), .pointer (some ⟨w.heap.size + 1, 0, none⟩), .pointer (some ⟨w.heap.size + 1 + 2, 0, none⟩)]) rfl (enters_of Tryd.func95 (by kernel_rfl) rfl)
    (partsOf 44 a0.data.toList) (w.heap.size + 1) (by omega) (fun A B => ∀ k, w.heap.size < k → k < w.heap.size + 4 → B.heap[k]? = A.heap[k]?) (fun h1 h2 k a b => (h2 k a b).trans (h1 k a b)) (fun A o k a b => World.putObj_heap_other (by omega))
    ?seq (fun pre W => pre.length ≤ 1000001 ∧ (∃ v, W.heap[w.heap.size]? = some (.cells #[v] 33 (0, 0)) ∧ W.ownsRow (w4.heap.size + 2) 3 1 v pre.length (pre.map fun x => Value.int .i64 (hexNum x.data.toList : Int))) ∧ Below w.heap.size w W)
    ?put ?set ?start
    (fun x => { tmps := #[.string a0, undef, .slice none 0 0, .pointer (some ⟨w.heap.size, 0, none⟩), .string x, undef, undef, .string a0, .func (.func 95) #[] #[.pointer (some ⟨w.heap.size + 1 + 1, 0, none⟩), .pointer (some ⟨w.heap.size + 1, 0, none⟩), .pointer (some ⟨w.heap.size + 1 + 2, 0, none⟩)], .string x, undef, undef, undef, undef, undef, undef, undef, undef, undef, undef], defers := [] })
    ?assign ?body ?done
  case seq =>
    intro J W hset hY hlow h0
    refine callsIn_wide.2 (callsIn_wide.1 (splitSeq_in (w4.heap.size + 1) (w.heap.size + 1) (w.heap.size + 1 + 1) (w.heap.size + 1 + 2) 44 a0 hb1 (by omega) (by omega) J hset ?_ W ?_ ?_ ?_ h0))
    · intro pre x A hj hx hxl
      obtain ⟨fn, tmps, assign, body, hy, hR⟩ := hY pre x A hj hx hxl
      exact ⟨fn, tmps, assign, body, hy, hR.mono (fun e W' h => ⟨h.1, h.2.1, h.2.2 _ (by omega) (by omega), h.2.2 _ (by omega) (by omega), h.2.2 _ (by omega) (by omega)⟩)⟩
    · exact (hlow _ (by omega)).trans HG1.out
    · exact (hlow _ (by omega)).trans HG2.out
    · exact (hlow _ (by omega)).trans HG3.out
  case put =>
    rintro pre A o ⟨h1, ⟨v, h2, h3⟩, h4⟩
    refine ⟨h1, ⟨v, (World.putObj_heap_other (by omega)).trans h2, own_move h3 (fun k hk => World.putObj_heap_other (by have := own_base h3 k hk; omega))⟩, ?_⟩
    exact h4.grown (grownBy_putObj' A _ o) h4.size (fun k e => by cases e; omega)
  case set =>
    rintro pre A u ⟨h1, ⟨v, h2, h3⟩, h4⟩
    exact ⟨h1, ⟨v, (Below.heap_setCell A _ u _ (by show w.heap.size ≠ w.heap.size + 1; omega)).trans h2, ownsRow_setCell_below h3 (by show w.heap.size + 1 < w4.heap.size + 2; omega) u⟩, h4.setCell (by show w.heap.size ≤ w.heap.size + 1; omega) u⟩
  case start =>
    intro o
    refine ⟨by simp, ⟨.slice none 0 0, ?_, World.ownsRow_nil _ _ _ _⟩, below_alloc (below_alloc HB4.out _) _⟩
    rw [Below.heap_alloc _ _ _ (by simp; omega), Below.heap_alloc _ _ _ (by omega)]
    exact HG0.out
  case assign =>
    intro l x W K hK
    gi_wp2
    exact hK
  case body =>
    rintro l pre x A ⟨h1, ⟨v, h2, h3⟩, h4⟩ hx hxl hsz
    have hpre : pre.length + 1 ≤ 1000001 := by omega
    have hc : A.cell? ⟨w.heap.size, 0, none⟩ = some v := by simp [World.cell?, h2]
    have hp := List.all_eq_true.1 HB2.out x hx
    simp only [isPart, Bool.and_eq_true, decide_eq_true_eq] at hp
    have HPI := Aside0.mk (fun n W => CallsIn.inRound l (callsIn_wide (n := n).2 (ParseInt_hex x hp.1.1 hp.1.2 hp.2 W)))
    obtain ⟨z, hz⟩ : ∃ z : Int, z = (hexNum x.data.toList : Int) := ⟨_, rfl⟩
    rw [← hz] at HPI
    have HZ := Aside0.mk hz
    have H2 := Aside0.mk h2
    have H3 := Aside0.mk h3
    have H4 := Aside0.mk h4
    clear hz hp h2 h3 h4
    gi_wp2_with fail
    refine ⟨trivial, rfl, ?_⟩
    refine (HPI.out _ _).mono ?_
    rintro e W2 ⟨rfl, hb⟩
    have hs2 : w4.heap.size + 2 ≤ W2.heap.size := Nat.le_trans hsz hb.size
    have hrow : W2.ownsRow (w4.heap.size + 2) 3 1 v pre.length (pre.map fun x => Value.int .i64 (hexNum x.data.toList : Int)) := own_move H3.out (fun k hk => hb.block k (own_lt H3.out k hk))
    have HK : Aside0 (∀ k, k < w4.heap.size + 2 → W2.heap[k]? = A.heap[k]?) := ⟨fun k hk => hb.block k (by omega)⟩
    have HBW : Aside0 (Below w.heap.size w W2) := ⟨below_step H4.out hb⟩
    have HV2 : Aside0 (W2.heap[w.heap.size]? = some (.cells #[v] 33 (0, 0))) := ⟨(HK.out _ (by omega)).trans H2.out⟩
    have hc2 : W2.cell? ⟨w.heap.size, 0, none⟩ = some v := by simp [World.cell?, HV2.out]
    clear hc hb H2 H3 H4 HPI
    have HROW := Aside0.mk hrow
    clear hrow
    gi_wp2_with (gi_at_builtin; refine wpListIn_append_own _ rfl _ _ 33 rfl (w4.heap.size + 2) 3 i0 (.int .i64 0) 1 8 Tryd.underlying33 hi hz0 hz1 hz2 rfl (by decide) v pre.length _ ?c1 (HROW.out.alloc _) ⟨W2.heap.size, 0, none⟩ 1 1 [.int .i64 z] ?c2 rfl (cell_one_new _ _ _) (by simp [Value.oneCell']) (by unfold maxLen; omega) (by omega) (by simp; omega) ?_)
    case c1 => rfl
    case c2 => rfl
    intro v' w1 hown' hgrow _
    obtain ⟨g', cap', rfl⟩ := ownsRow_succ hown'
    have HOWN := Aside0.mk hown'
    have HKEEP : Aside0 (∀ k, k < w4.heap.size + 2 → w1.heap[k]? = W2.heap[k]?) := ⟨fun k hk => (hgrow.block k (by simp; omega) (fun e => by have := own_base HROW.out k e.symm; omega)).trans (Below.heap_alloc _ _ _ (by omega))⟩
    have HBW1 : Aside0 (Below w.heap.size w w1) := ⟨(below_alloc HBW.out _).grown hgrow (by have := HBW.out.size; simp; omega) (fun k e => by have := own_base HROW.out k e; omega)⟩
    have HV1 : Aside0 (w1.heap[w.heap.size]? = some (.cells #[v] 33 (0, 0))) := ⟨(HKEEP.out _ (by omega)).trans HV2.out⟩
    have hc1 : w1.cell? ⟨w.heap.size, 0, none⟩ = some v := by simp [World.cell?, HV1.out]
    have hf1 : w1.frozen? ⟨w.heap.size, 0, none⟩ = false := by simp [World.frozen?, HV1.out]
    clear hown' hgrow hc2
    gi_wp2
    have hoth := fun k (hk : k ≠ w.heap.size) => Below.heap_setCell w1 ⟨w.heap.size, 0, none⟩ (.slice (some ⟨g', 0, none⟩) (pre.length + 1) cap') k hk
    refine ⟨⟨⟨_, one_setCell HV1.out, ?_⟩, HBW1.out.setCell (Nat.le_refl _) _⟩, fun k a b => ?_, ?_, ?_⟩
    · have := ownsRow_setCell_below HOWN.out (a := ⟨w.heap.size, 0, none⟩) (by show w.heap.size < w.heap.size + 4 + 2; omega) (.slice (some ⟨g', 0, none⟩) (pre.length + 1) cap')
      rw [HZ.out] at this
      exact this
    · rw [hoth k (by omega), HKEEP.out k (by omega), HK.out k (by omega)]
    · rw [hoth _ (by omega), HKEEP.out _ (by omega), HK.out _ (by omega)]
    · rw [hoth _ (by omega), HKEEP.out _ (by omega), HK.out _ (by omega)]
  case done =>
    rintro W ⟨h1, ⟨v, h2, h3⟩, h4⟩ hK
    have hc : W.cell? ⟨w.heap.size, 0, none⟩ = some v := by simp [World.cell?, h2]
    gi_wp2
    refine ⟨by simp, .inl ⟨_, _, rfl, run_takeDeferred hK, ?_⟩⟩
    refine ⟨_, results_tmp rfl _ _ _, v, rfl, ?_, h4.grown (grownBy_putObj' W _ _) h4.size (fun k e => by cases e; omega)⟩
    refine Kd.R_of_own ?_ (fun _ _ => trivial)
    rw [← HR.out, List.length_map]
    have := own_weaken (base' := w.heap.size) (own_move (w1 := W.putObj w4.heap.size (.deferred none)) h3 (fun k hk => World.putObj_heap_other (by have := own_base h3 k hk; omega))) (by omega)
    unfold encs
    rw [List.map_map]
    exact this
end Go.Proofs.YtniehnkiicliaaaDoor.M
end
section
/- Laid by this session's program hbprint.py out of the translation: the function hornbook/glyph.Uni and its contract. -/
namespace Go.Proofs.YtniehnkiicliaaaDoor.M
open Go.RowKit Go.Proofs.YtniehnkiicliaaaDoorW.PrintWords Go.Proofs.YtniehnkiicliaaaDoorW.PrintLast Go.Proofs.YtniehnkiicliaaaDoorW.PrintMore
attribute [local go_sem] max2_int min2_int max_two min_two max_three min_three max_four min_four
set_option linter.unusedVariables false
set_option linter.unusedSimpArgs false
def glyph_Uni.j0 : Nat → ByteArray → Bool → Option (List Int × Bool)
  | 0, _, _ => none
  | k + 1, x0, x15 => if x15 = true then (some (([] : List Int), false)) else ((glyph_list.f k).bind fun t129 => (if 1 + x0.size ≤ 9223372036854775807 then (if ((⟨#[32]⟩ : ByteArray) ++ x0).size + 1 ≤ 9223372036854775807 then ((strings_Cut.f t129 (((⟨#[32]⟩ : ByteArray) ++ x0) ++ (⟨#[61]⟩ : ByteArray))).bind fun bt130 => (if bt130.2.2 = true then ((strings_Cut.f bt130.2.1 (⟨#[32]⟩ : ByteArray)).bind fun bt133 => ((glyph_values.f bt133.1).bind fun t136 => (some (t136, true)))) else (some (([] : List Int), false)))) else (none)) else (none)))
def glyph_Uni.f (k : Nat) (a0 : ByteArray) : Option (List Int × Bool) := if a0.toList = ([] : List UInt8) then (glyph_Uni.j0 k a0 true) else ((strings_ContainsAny.f a0 (⟨#[32, 61]⟩ : ByteArray)).bind fun t128 => (glyph_Uni.j0 k a0 t128))
theorem glyph_Uni.mono_l : ∀ k, (∀ y0 y1, LeO (glyph_Uni.j0 k y0 y1) (glyph_Uni.j0 (k + 1) y0 y1))
  | 0 => fun _ _ r h => by simp [glyph_Uni.j0] at h
  | k + 1 => by
    have ih0 := glyph_Uni.mono_l k
    · intro y0 y1
      unfold glyph_Uni.j0
      repeat' first
      | (with_reducible exact ih0 _ _)
      | (with_reducible exact glyph_list.mono _)
      | (with_reducible exact LeO.refl _)
      | (with_reducible exact LeO.none _)
      | (with_reducible refine LeO.ite ?_ ?_)
      | (with_reducible refine LeO.bind ?_ (fun _ => ?_))
      | exact ih0 _ _
      | exact glyph_list.mono _
      | exact LeO.none _
      | refine LeO.ite ?_ ?_
      | refine LeO.bind ?_ (fun _ => ?_)
theorem glyph_Uni.mono : ∀ a0 k, LeO (glyph_Uni.f k a0) (glyph_Uni.f (k + 1) a0) := by
  intro a0 k
  have ih0 := glyph_Uni.mono_l k
  unfold glyph_Uni.f
  repeat' first
      | (with_reducible exact ih0 _ _)
      | (with_reducible exact glyph_list.mono _)
      | (with_reducible exact LeO.refl _)
      | (with_reducible exact LeO.none _)
      | (with_reducible refine LeO.ite ?_ ?_)
      | (with_reducible refine LeO.bind ?_ (fun _ => ?_))
      | exact ih0 _ _
      | exact glyph_list.mono _
      | exact LeO.none _
      | refine LeO.ite ?_ ?_
      | refine LeO.bind ?_ (fun _ => ?_)
set_option maxHeartbeats 8000000 in
set_option maxRecDepth 100000 in
theorem glyph_Uni.calls (k : Nat) (a0 : ByteArray) (r1 : List Int) (r2 : Bool) (w : World) (hG : GW w) (h : glyph_Uni.f k a0 = some (r1, r2)) :
    Calls Tryd.prog 23 #[.string a0] w fun e w' => ∃ v0_ : Value, e = .returned (.tuple #[v0_, .bool r2]) ∧ Kd.R (Kd.int .i64) 3 w' w.heap.size (fun _ => True) v0_ r1 ∧ Below w.heap.size w w' := by
  have HG := Aside0.mk hG
  clear hG
  have HB := Aside0.mk (Below.refl w.heap.size w)
  have H : (if a0.toList = ([] : List UInt8) then (glyph_Uni.j0 k a0 true) else ((strings_ContainsAny.f a0 (⟨#[32, 61]⟩ : ByteArray)).bind fun t128 => (glyph_Uni.j0 k a0 t128))) = some (r1, r2) := h
  clear h
  have HC2 := Aside0.mk H
  clear H
  go_enter Tryd.func23, Tryd.ntmps23
  go_upto_region 1 with (fail)
  go_cut [15] (fun v15 wc => ∃ (kq : Nat) (x15_1 : Bool), v15 = .bool x15_1 ∧ Aside0 (glyph_Uni.j0 kq a0 x15_1 = some (r1, r2)) ∧ Aside0 (kq ≤ k) ∧ Aside0 (Below w.heap.size w wc))
  case first =>
    have H := HC2.out
    clear HC2
    by_cases c3 : a0.toList = ([] : List UInt8)
    · rw [if_pos c3] at H
      have c3b0 : (a0.toList == ([] : List UInt8)) = true := beq_iff_eq.mpr c3
      have c3b1 : (a0.toList != ([] : List UInt8)) = false := bne_eq_false_iff_eq.mpr c3
      clear c3
      (first | rw [c3b0] | (simp only [i64_w, i32_w]; rw [c3b0]) | skip)
      have H' := Aside0.mk H
      clear H
      go_wp2
      go_meet
      case rel => exact ⟨_, (true), (by first | rfl | (simp; done) | (simp [*]; done)), H', ⟨by first | omega | exact Nat.le_refl _⟩, ⟨by repeat (first | (with_reducible first | exact HB.out | apply below_alloc | apply pw_below_drewN | apply below_drew1) | exact HB.out)⟩⟩
    · rw [if_neg c3] at H
      have c3b0 : (a0.toList == ([] : List UInt8)) = false := beq_eq_false_iff_ne.mpr c3
      have c3b1 : (a0.toList != ([] : List UInt8)) = true := bne_iff_ne.mpr c3
      (first | rw [c3b0] | (simp only [i64_w, i32_w]; rw [c3b0]) | skip)
      replace H := Option.bind_eq_some_iff.mp H
      obtain ⟨t128, A40, H⟩ := H
      replace H : (glyph_Uni.j0 k a0 t128) = some (r1, r2) := H
      have A4 := Aside0.mk A40
      clear A40
      have H' := Aside0.mk H
      clear H
      go_wp2_with (first | (go_at_call 36; (with_reducible refine (strings_ContainsAny.calls a0 (⟨#[32, 61]⟩ : ByteArray) t128 _ A4.out).mono ?_); rintro e w5 ⟨rfl, hb⟩; have n0_ := Aside0.mk (below_step (by repeat (first | (with_reducible first | exact HB.out | apply below_alloc | apply pw_below_drewN | apply below_drew1) | exact HB.out)) hb); clear HB; have HB := n0_; clear n0_; (try clear hb); (try clear hb2); (try clear hk); (try clear hi)))
      go_meet
      case rel => exact ⟨_, (t128), (by first | rfl | (simp; done) | (simp [*]; done)), H', ⟨by first | omega | exact Nat.le_refl _⟩, ⟨by repeat (first | (with_reducible first | exact HB.out | apply below_alloc | apply pw_below_drewN | apply below_drew1) | exact HB.out)⟩⟩
  case rest =>
    clear HC2
    try clear c2
    try clear p2
    try clear c3
    try clear c3b0
    try clear c3b1
    obtain ⟨kq, x15_1, rfl, HA, HJ1, HB⟩ := hcut
    cases kq with
    | zero => exact absurd HA.out (by simp [glyph_Uni.j0])
    | succ kj1 =>
      have H := HA.out
      clear HA
      simp only [glyph_Uni.j0] at H
      by_cases c6 : x15_1 = true
      · subst c6
        have H1 : (some (([] : List Int), false)) = some (r1, r2) := by rw [if_pos rfl] at H; exact H
        clear H
        have H := H1
        clear H1
        simp only [Option.some.injEq, Prod.mk.injEq] at H
        obtain ⟨rfl, rfl⟩ := H
        go_wp2
        go_ret2
        exact ⟨_, by first | rfl | (simp [errW_none, errW_some] <;> rfl) | (simp [*, errW_none, errW_some] <;> rfl), by first | exact Kd.R_nil _ _ _ _ _ | exact Kd.N_nil _ _ _ _ _ | exact Kd.V_nil _ _ _ _ _ | exact Kd.Q_nil _ _ _ _ _ | exact Kd.S_nil _ _ _ _ _, by repeat (first | (with_reducible first | exact HB.out | apply below_alloc | apply pw_below_drewN | apply below_drew1) | exact HB.out)⟩
      · replace c6 := Bool.eq_false_iff.mpr c6
        subst c6
        have H1 : ((glyph_list.f kj1).bind fun t129 => (if 1 + a0.size ≤ 9223372036854775807 then (if ((⟨#[32]⟩ : ByteArray) ++ a0).size + 1 ≤ 9223372036854775807 then ((strings_Cut.f t129 (((⟨#[32]⟩ : ByteArray) ++ a0) ++ (⟨#[61]⟩ : ByteArray))).bind fun bt130 => (if bt130.2.2 = true then ((strings_Cut.f bt130.2.1 (⟨#[32]⟩ : ByteArray)).bind fun bt133 => ((glyph_values.f bt133.1).bind fun t136 => (some (t136, true)))) else (some (([] : List Int), false)))) else (none)) else (none))) = some (r1, r2) := by rw [if_neg (show ¬ (false = true) by decide)] at H; exact H
        clear H
        have H := H1
        clear H1
        replace H := Option.bind_eq_some_iff.mp H
        obtain ⟨t129, A70, H⟩ := H
        replace H : (if 1 + a0.size ≤ 9223372036854775807 then (if ((⟨#[32]⟩ : ByteArray) ++ a0).size + 1 ≤ 9223372036854775807 then ((strings_Cut.f t129 (((⟨#[32]⟩ : ByteArray) ++ a0) ++ (⟨#[61]⟩ : ByteArray))).bind fun bt130 => (if bt130.2.2 = true then ((strings_Cut.f bt130.2.1 (⟨#[32]⟩ : ByteArray)).bind fun bt133 => ((glyph_values.f bt133.1).bind fun t136 => (some (t136, true)))) else (some (([] : List Int), false)))) else (none)) else (none)) = some (r1, r2) := H
        have A7 := Aside0.mk A70
        clear A70
        by_cases c8 : 1 + a0.size ≤ 9223372036854775807
        · rw [if_pos c8] at H
          have c8b0 := eq_true c8
          have c8b1 : decide (1 + a0.size ≤ 9223372036854775807) = true := decide_eq_true c8
          try have c8b2 : (9223372036854775807 < 1 + a0.size) = False := eq_false (Nat.not_lt.2 c8)
          by_cases c9 : ((⟨#[32]⟩ : ByteArray) ++ a0).size + 1 ≤ 9223372036854775807
          · rw [if_pos c9] at H
            have c9b0 := eq_true c9
            have c9b1 : decide (((⟨#[32]⟩ : ByteArray) ++ a0).size + 1 ≤ 9223372036854775807) = true := decide_eq_true c9
            try have c9b2 : (9223372036854775807 < ((⟨#[32]⟩ : ByteArray) ++ a0).size + 1) = False := eq_false (Nat.not_lt.2 c9)
            try have c9b9 : (9223372036854775807 < (1 + a0.size) + 1) = False := eq_false (Nat.not_lt.2 (by have h_ := c9; (repeat rw [ByteArray.size_append] at h_); exact h_))
            replace H := Option.bind_eq_some_iff.mp H
            obtain ⟨⟨t130, t131, t132⟩, A100, H⟩ := H
            replace H : (if t132 = true then ((strings_Cut.f t131 (⟨#[32]⟩ : ByteArray)).bind fun bt133 => ((glyph_values.f bt133.1).bind fun t136 => (some (t136, true)))) else (some (([] : List Int), false))) = some (r1, r2) := H
            have A10 := Aside0.mk A100
            clear A100
            by_cases c11 : t132 = true
            · subst c11
              have H1 : ((strings_Cut.f t131 (⟨#[32]⟩ : ByteArray)).bind fun bt133 => ((glyph_values.f bt133.1).bind fun t136 => (some (t136, true)))) = some (r1, r2) := by rw [if_pos rfl] at H; exact H
              clear H
              have H := H1
              clear H1
              replace H := Option.bind_eq_some_iff.mp H
              obtain ⟨⟨t133, t134, t135⟩, A120, H⟩ := H
              replace H : ((glyph_values.f t133).bind fun t136 => (some (t136, true))) = some (r1, r2) := H
              have A12 := Aside0.mk A120
              clear A120
              replace H := Option.bind_eq_some_iff.mp H
              obtain ⟨t136, A130, H⟩ := H
              replace H : (some (t136, true)) = some (r1, r2) := H
              have A13 := Aside0.mk A130
              clear A130
              simp only [Option.some.injEq, Prod.mk.injEq] at H
              obtain ⟨rfl, rfl⟩ := H
              go_wp2_with (first | ((with_reducible refine gate_callee (f := 38) rfl ?_); refine goesL_ (some 17) rfl rfl Tryd.func38 (by kernel_rfl) rfl #[] rfl (by (try simp only [List.map_toArray, List.map_cons, List.map_nil]); first | done | rfl | (simp only [List.length_drop, List.length_take]; rfl)) ?_; (with_reducible refine (glyph_list.calls kj1  t129 _ A7.out).mono ?_); rintro e w14 ⟨rfl, hb⟩; refine ⟨_, rfl, ?_⟩; have n0_ := Aside0.mk (below_step (by repeat (first | (with_reducible first | exact HB.out | apply below_alloc | apply pw_below_drewN | apply below_drew1) | exact HB.out)) hb); clear HB; have HB := n0_; clear n0_; (try clear hb); (try clear hb2); (try clear hk); (try clear hi)) | ((with_reducible refine gate_callee (f := 37) rfl ?_); refine goesL_ (some 21) rfl rfl Tryd.func37 (by kernel_rfl) rfl #[.string t129, .string (((⟨#[32]⟩ : ByteArray) ++ a0) ++ (⟨#[61]⟩ : ByteArray))] rfl (by (try simp only [List.map_toArray, List.map_cons, List.map_nil]); first | done | rfl | (simp only [List.length_drop, List.length_take]; rfl)) ?_; (with_reducible refine (strings_Cut.calls t129 (((⟨#[32]⟩ : ByteArray) ++ a0) ++ (⟨#[61]⟩ : ByteArray)) t130 t131 true _ ?side1 A10.out).mono ?_); (case side1 => exact GW.below (by repeat (first | (with_reducible first | exact HB.out | apply below_alloc | apply pw_below_drewN | apply below_drew1) | exact HB.out)) HG.out); rintro e w15 ⟨rfl, hb⟩; refine ⟨_, rfl, ?_⟩; have n0_ := Aside0.mk (below_step (by repeat (first | (with_reducible first | exact HB.out | apply below_alloc | apply pw_below_drewN | apply below_drew1) | exact HB.out)) hb); clear HB; have HB := n0_; clear n0_; (try clear hb); (try clear hb2); (try clear hk); (try clear hi)) | ((with_reducible refine gate_callee (f := 37) rfl ?_); refine goesL_ (some 29) rfl rfl Tryd.func37 (by kernel_rfl) rfl #[.string t131, .string (⟨#[32]⟩ : ByteArray)] rfl (by (try simp only [List.map_toArray, List.map_cons, List.map_nil]); first | done | rfl | (simp only [List.length_drop, List.length_take]; rfl)) ?_; (with_reducible refine (strings_Cut.calls t131 (⟨#[32]⟩ : ByteArray) t133 t134 t135 _ ?side1 A12.out).mono ?_); (case side1 => exact GW.below (by repeat (first | (with_reducible first | exact HB.out | apply below_alloc | apply pw_below_drewN | apply below_drew1) | exact HB.out)) HG.out); rintro e w16 ⟨rfl, hb⟩; refine ⟨_, rfl, ?_⟩; have n0_ := Aside0.mk (below_step (by repeat (first | (with_reducible first | exact HB.out | apply below_alloc | apply pw_below_drewN | apply below_drew1) | exact HB.out)) hb); clear HB; have HB := n0_; clear n0_; (try clear hb); (try clear hb2); (try clear hk); (try clear hi)) | ((with_reducible refine gate_callee (f := 39) rfl ?_); refine goesL_ (some 34) rfl rfl Tryd.func39 (by kernel_rfl) rfl #[.string t133] rfl (by (try simp only [List.map_toArray, List.map_cons, List.map_nil]); first | done | rfl | (simp only [List.length_drop, List.length_take]; rfl)) ?_; (with_reducible refine (glyph_values.calls t133 t136 _ A13.out).mono ?_); rintro e w17 ⟨v137, rfl, ho0, hb⟩; refine ⟨_, rfl, ?_⟩; have n0_ := Aside0.mk (Kd.R_lower ho0 (below_size (by repeat (first | (with_reducible first | exact HB.out | apply below_alloc | apply pw_below_drewN | apply below_drew1) | exact HB.out)))); have n1_ := Aside0.mk (below_step (by repeat (first | (with_reducible first | exact HB.out | apply below_alloc | apply pw_below_drewN | apply below_drew1) | exact HB.out)) hb); clear HB; have HO138 := n0_; have HB := n1_; clear n0_ n1_; (try clear hb); (try clear hb2); (try clear hk); (try clear hi); (try clear ho0)))
              go_ret2
              exact ⟨_, by first | rfl | (simp [errW_none, errW_some] <;> rfl) | (simp [*, errW_none, errW_some] <;> rfl), by (with_reducible repeat (first | apply Kd.R_alloc | apply Kd.R_drewN | apply Kd.R_drew)); exact HO138.out, by repeat (first | (with_reducible first | exact HB.out | apply below_alloc | apply pw_below_drewN | apply below_drew1) | exact HB.out)⟩
            · replace c11 := Bool.eq_false_iff.mpr c11
              subst c11
              have H1 : (some (([] : List Int), false)) = some (r1, r2) := by rw [if_neg (show ¬ (false = true) by decide)] at H; exact H
              clear H
              have H := H1
              clear H1
              simp only [Option.some.injEq, Prod.mk.injEq] at H
              obtain ⟨rfl, rfl⟩ := H
              go_wp2_with (first | ((with_reducible refine gate_callee (f := 38) rfl ?_); refine goesL_ (some 17) rfl rfl Tryd.func38 (by kernel_rfl) rfl #[] rfl (by (try simp only [List.map_toArray, List.map_cons, List.map_nil]); first | done | rfl | (simp only [List.length_drop, List.length_take]; rfl)) ?_; (with_reducible refine (glyph_list.calls kj1  t129 _ A7.out).mono ?_); rintro e w18 ⟨rfl, hb⟩; refine ⟨_, rfl, ?_⟩; have n0_ := Aside0.mk (below_step (by repeat (first | (with_reducible first | exact HB.out | apply below_alloc | apply pw_below_drewN | apply below_drew1) | exact HB.out)) hb); clear HB; have HB := n0_; clear n0_; (try clear hb); (try clear hb2); (try clear hk); (try clear hi)) | ((with_reducible refine gate_callee (f := 37) rfl ?_); refine goesL_ (some 21) rfl rfl Tryd.func37 (by kernel_rfl) rfl #[.string t129, .string (((⟨#[32]⟩ : ByteArray) ++ a0) ++ (⟨#[61]⟩ : ByteArray))] rfl (by (try simp only [List.map_toArray, List.map_cons, List.map_nil]); first | done | rfl | (simp only [List.length_drop, List.length_take]; rfl)) ?_; (with_reducible refine (strings_Cut.calls t129 (((⟨#[32]⟩ : ByteArray) ++ a0) ++ (⟨#[61]⟩ : ByteArray)) t130 t131 false _ ?side1 A10.out).mono ?_); (case side1 => exact GW.below (by repeat (first | (with_reducible first | exact HB.out | apply below_alloc | apply pw_below_drewN | apply below_drew1) | exact HB.out)) HG.out); rintro e w19 ⟨rfl, hb⟩; refine ⟨_, rfl, ?_⟩; have n0_ := Aside0.mk (below_step (by repeat (first | (with_reducible first | exact HB.out | apply below_alloc | apply pw_below_drewN | apply below_drew1) | exact HB.out)) hb); clear HB; have HB := n0_; clear n0_; (try clear hb); (try clear hb2); (try clear hk); (try clear hi)))
              go_ret2
              exact ⟨_, by first | rfl | (simp [errW_none, errW_some] <;> rfl) | (simp [*, errW_none, errW_some] <;> rfl), by first | exact Kd.R_nil _ _ _ _ _ | exact Kd.N_nil _ _ _ _ _ | exact Kd.V_nil _ _ _ _ _ | exact Kd.Q_nil _ _ _ _ _ | exact Kd.S_nil _ _ _ _ _, by repeat (first | (with_reducible first | exact HB.out | apply below_alloc | apply pw_below_drewN | apply below_drew1) | exact HB.out)⟩
          · rw [if_neg c9] at H
            exact absurd H (by simp)
        · rw [if_neg c8] at H
          exact absurd H (by simp)
end Go.Proofs.YtniehnkiicliaaaDoor.M
end
section
namespace Go.Proofs.YtniehnkiicliaaaDoor.M
open Go.RowKit Go.Proofs.YtniehnkiicliaaaDoorW.PrintWords
set_option linter.unusedVariables false
def isAscii (l : List UInt8) : Bool := l.all fun b => decide (b.toNat < 128)
def fieldsB (a0 : ByteArray) : List ByteArray := (Lib.fields a0.data.toList).map fun l => ⟨l.toArray⟩
def strings_Fields.f (a0 : ByteArray) : Option (List ByteArray) := if a0.size < 4294967281 ∧ isAscii a0.data.toList = true ∧ (fieldsB a0).length ≤ 8796093022208 then some (fieldsB a0) else none
theorem strings_Fields.calls (a0 : ByteArray) (r : List ByteArray) (w : World) (hG : GW w) (h : strings_Fields.f a0 = some r) :
    Calls Tryd.prog 42 #[.string a0] w fun e w' => ∃ v0_ : Value, e = .returned (v0_) ∧ Kd.R Kd.string 9 w' w.heap.size (fun _ => True) v0_ r ∧ Below w.heap.size w w' := by
  unfold strings_Fields.f at h
  split at h
  case isFalse => cases h
  rename_i hb
  obtain rfl := Option.some.inj h
  obtain ⟨hb1, hb2, hb3⟩ := hb
  have hl : (fieldsB a0).length = (Lib.fields a0.data.toList).length := by simp [fieldsB]
  refine (Tryd.strings_Fields a0 w hb1 ?_ hG.space).mono ?_
  · intro j b hj
    have := List.all_eq_true.1 hb2 b (List.mem_of_getElem? hj)
    simpa using this
  · rintro e w' ⟨rfl, rfl⟩
    exact ⟨_, rfl, strings_fresh w (fieldsB a0) _ _ _ hl (Nat.le_refl _) (by unfold maxLen; omega) (by simp) (by rw [List.take_of_length_le (by simp)]; simp [fieldsB]), below_alloc (Below.refl _ _) _⟩
end Go.Proofs.YtniehnkiicliaaaDoor.M
end
