/- Packed by this session's program hbpack.py out of this claim's own texts (Sh2, Lr, Cy, Q17, Sp, Pi16, Pj16, Rl, Q20, Q7, Q9, Q6, Q8, Q3, Wr, Gf): the same declarations, without those that the claim does not use. -/
import Derived.Test.YtdbadfcekomomaaDoorPkGlyphIs2
import Derived.Shelf.Strings.Builder1
import Derived.Shelf.Strings.Builder2
import Derived.Shelf.Strings.OnBuilder
import Derived.Shelf.Small.Utf8
import Derived.Shelf.Small.Strs
import Derived.Shelf.Strings.BuilderF
import Derived.Shelf.Strings.BuilderK
import Derived.Shelf.Strings.BuilderRune
import Derived.Shelf.Utf8.AppendRune
import Derived.Shelf.Utf8.AppendRunePlain
import Derived.Shelf.Strings.Builder2Cap
import Derived.Shelf.Strconv.Itoa0
import Derived.Shelf.Strconv.Itoa1
import Derived.Shelf.LaysM
import Derived.Shelf.Strconv.Itoa2
import Derived.Shelf.Strconv.Itoa3
import Derived.Shelf.Strconv.ParseIntEmpty
import Derived.Shelf.Strconv.Clone
import Derived.Shelf.Strconv.SyntaxError
import Derived.Shelf.LaysC
import Derived.Shelf.Strconv.ToError
import Derived.Shelf.Strconv.Lower
import Derived.Shelf.Strconv.ParseUint10
import Derived.Shelf.Strconv.ParseUint10Empty
import Derived.Shelf.Strconv.ParseUint10Any
import Derived.Shelf.Strconv.ParseInt10
import Derived.Shelf.Strconv.RangeError
import Derived.Shelf.Strconv.ToErrorRange
import Derived.Shelf.Strconv.ParseUintEmpty
import Derived.Shelf.Strconv.ParseUint10b64
import Derived.Shelf.Strconv.ParseUint10b32
import Derived.Shelf.Strconv.ParseUint10b16
import Derived.Shelf.Strconv.ParseUint10b8
import Derived.Shelf.Strconv.ParseUint10At
import Derived.Shelf.Strconv.ParseInt10At64
import Derived.Shelf.Strconv.ParseInt10At32
import Derived.Shelf.Strconv.ParseInt10At16
import Derived.Shelf.Strconv.ParseInt10At8
import Derived.Shelf.Strconv.ParseInt10All
import Derived.Shelf.Strconv.ParseIntPublic10
import Derived.Shelf.Strings.Search1
import Derived.Shelf.Strings.Search2
import Derived.Shelf.Strings.Search3
import Derived.Shelf.Strings.Cut
import Derived.Shelf.Strings.Shaped
import Derived.Shelf.Strings.Fields
import Derived.Shelf.Strings.SplitShaped
import Derived.Shelf.Unicode.Latin
import Derived.Shelf.Unicode.Decode
import Derived.Shelf.Strings.Runes
import Derived.Shelf.Strings.IndexAny
import Derived.Shelf.Strings.AsciiSet
import Derived.Shelf.Strings.IndexAnyAll
import Derived.Shelf.Unicode.DecodeSlow
import Derived.Shelf.Unicode.DecodeAny
import Derived.Shelf.Unicode.Is16White
import Derived.Shelf.Unicode.IsSpaceAny
import Derived.Shelf.Unicode.Is16WhiteD
import Derived.Shelf.Unicode.Is16Any
import Derived.Shelf.Unicode.Is32Any
import Derived.Shelf.Unicode.ExclAny
import Derived.Shelf.Strings.BuilderCap
import Derived.Test.YtdbadfcekomomaaDoorProg
import Derived.Laws.BitsLemmas
import Derived.Lib.Strings
import Derived.Lib.IndexBytes
import Derived.Laws.RangeAny
import Derived.Laws.Runes
import Derived.Lib.IndexAny
import Derived.Lib.OthersKept
import Derived.Deep.LoopGhost
import Derived.Scope
import Derived.WalkMore
import Derived.Deep.RegionWith
import Derived.RangeFuncRecord
import Derived.RangeFuncSeq
import Derived.Shelf.Abstract
import Derived.Shelf.RegionOpen
import Derived.WalkKit
import Derived.OwnWalkIn
import Derived.TacticsInMore
import Derived.LoopNIn
import Derived.LoopIn
import Derived.Laws.Rows
import Derived.OneCell
import Derived.Lib.Walk
import Derived.Lib.Builder
import Derived.Lib.ConvBytes
import Derived.Lib.AtoiAllMem
import Derived.Laws.Strings3
import Derived.Laws.Closers25
import Derived.Laws.Closers25b
import Derived.BigCall
import Derived.BigGuard
import Derived.RangeFuncOwn
import Derived.RangeFuncLeaves
import Derived.RangeFuncCalls
import Derived.RangeFuncFrom
import Derived.RangeFuncBox
import Derived.Maps.AppendAt
import Derived.HandedShaped
import Derived.ProofKit
import Derived.LaidMore
import Derived.Lay
import Derived.Stop.Joined
import Derived.Shelf.Vars
import Derived.Stop.LaidErr
import Derived.Test.YtdbadfcekomomaaDoorRows
import Derived.Lib.IndexMore
section
namespace Go.Proofs
open Go.Shelf
def Tryd.lays119_ren : Go.Shelf.Ren := ⟨fun | 119 => 57 | n => n, fun | 21 => 21 | 4 => 4 | n => n, fun | n => n⟩
theorem Tryd.lays119 : Go.Proofs.Lays.n119 Tryd.prog Tryd.lays119_ren := {
 mixed := by kernel_rfl
 f119 := Tryd.func57.trans (congrArg some (by kernel_rfl))
 t4 := Tryd.underlying4
 a4 := Tryd.isAgg4
 z4 := Tryd.sizeOf4
 v4 := Tryd.zeroValue4
 t21 := Tryd.underlying21
 a21 := Tryd.isAgg21
 z21 := Tryd.sizeOf21
 v21 := Tryd.zeroValue21 }
/-- utf8.ValidRune: "ValidRune reports whether r can be legally encoded as UTF-8. Code points that are out of range or a surrogate half are illegal.": IT RETURNS 'Lib.validRune r'; the world is as it was. (LAID: no walk: one application.) -/
theorem Tryd.utf8_ValidRune (r : Int) (w : World) :
  Calls Tryd.prog 57 #[.int .i32 r] w fun e w' => e = .returned (.bool (Lib.validRune r)) ∧ w' = w := Any.utf8_ValidRune Tryd.lays119 r w
def Tryd.lays143_ren : Go.Shelf.Ren := ⟨fun | 143 => 65 | 219 => 45 | 217 => 60 | 225 => 59 | 224 => 58 | 267 => 61 | 266 => 73 | 314 => 74 | n => n, fun | 9 => 9 | 3 => 3 | 4 => 4 | 5 => 5 | 46 => 92 | 146 => 115 | 51 => 86 | n => n, fun | 1 => 2 | n => n⟩
theorem Tryd.lays143 : Go.Proofs.Lays.n143 Tryd.prog Tryd.lays143_ren := {
 mixed := by kernel_rfl
 f143 := Tryd.func65.trans (congrArg some (by kernel_rfl))
 f217 := Tryd.func60.trans (congrArg some (by kernel_rfl))
 f219 := Tryd.func45.trans (congrArg some (by kernel_rfl))
 f224 := Tryd.func58.trans (congrArg some (by kernel_rfl))
 f225 := Tryd.func59.trans (congrArg some (by kernel_rfl))
 f266 := Tryd.func73.trans (congrArg some (by kernel_rfl))
 f267 := Tryd.func61.trans (congrArg some (by kernel_rfl))
 f314 := Tryd.func74.trans (congrArg some (by kernel_rfl))
 t3 := Tryd.underlying3
 a3 := Tryd.isAgg3
 z3 := Tryd.sizeOf3
 v3 := Tryd.zeroValue3
 t4 := Tryd.underlying4
 a4 := Tryd.isAgg4
 z4 := Tryd.sizeOf4
 v4 := Tryd.zeroValue4
 t5 := Tryd.underlying5
 a5 := Tryd.isAgg5
 z5 := Tryd.sizeOf5
 v5 := Tryd.zeroValue5
 t9 := Tryd.underlying9
 a9 := Tryd.isAgg9
 z9 := Tryd.sizeOf9
 v9 := Tryd.zeroValue9
 t46 := Tryd.underlying92
 a46 := Tryd.isAgg92
 z46 := Tryd.sizeOf92
 v46 := Tryd.zeroValue92
 t51 := Tryd.underlying86
 a51 := Tryd.isAgg86
 z51 := Tryd.sizeOf86
 v51 := Tryd.zeroValue86
 t146 := Tryd.underlying115
 a146 := Tryd.isAgg115
 z146 := Tryd.sizeOf115
 v146 := Tryd.zeroValue115
 g1 := by kernel_rfl }
open Go.RowKit Go.Lib in
/-- strings.Index: "Index returns the index of the first instance of substr in s, or -1 if substr is not present in s.": AT A substr OF ONE BYTE c: IT RETURNS 'Lib.indexByte s c'; the world is as it was. (LAID: no walk: one application.) -/
theorem Tryd.strings_Index_one (s : ByteArray) (c : UInt8) (w : World) :
  Calls Tryd.prog 65 #[.string s, .string ⟨#[c]⟩] w fun e w' => e = .returned (.int .i64 (Lib.indexByte s.data.toList c)) ∧ w' = w := Any.strings_Index_one Tryd.lays143 s c w
def Tryd.lays152_ren : Go.Shelf.Ren := ⟨fun | 152 => 41 | 137 => 56 | 119 => 57 | 224 => 58 | 225 => 59 | 217 => 60 | 266 => 73 | n => n, fun | 9 => 9 | 21 => 21 | 3 => 3 | 4 => 4 | 5 => 5 | 0 => 0 | 46 => 92 | n => n, fun | n => n⟩
theorem Tryd.lays152 : Go.Proofs.Lays.n152 Tryd.prog Tryd.lays152_ren := {
 mixed := by kernel_rfl
 f119 := Tryd.func57.trans (congrArg some (by kernel_rfl))
 f137 := Tryd.func56.trans (congrArg some (by kernel_rfl))
 f152 := Tryd.func41.trans (congrArg some (by kernel_rfl))
 f217 := Tryd.func60.trans (congrArg some (by kernel_rfl))
 f224 := Tryd.func58.trans (congrArg some (by kernel_rfl))
 f225 := Tryd.func59.trans (congrArg some (by kernel_rfl))
 f266 := Tryd.func73.trans (congrArg some (by kernel_rfl))
 t0 := Tryd.underlying0
 a0 := Tryd.isAgg0
 z0 := Tryd.sizeOf0
 v0 := Tryd.zeroValue0
 t3 := Tryd.underlying3
 a3 := Tryd.isAgg3
 z3 := Tryd.sizeOf3
 v3 := Tryd.zeroValue3
 t4 := Tryd.underlying4
 a4 := Tryd.isAgg4
 z4 := Tryd.sizeOf4
 v4 := Tryd.zeroValue4
 t5 := Tryd.underlying5
 a5 := Tryd.isAgg5
 z5 := Tryd.sizeOf5
 v5 := Tryd.zeroValue5
 t9 := Tryd.underlying9
 a9 := Tryd.isAgg9
 z9 := Tryd.sizeOf9
 v9 := Tryd.zeroValue9
 t21 := Tryd.underlying21
 a21 := Tryd.isAgg21
 z21 := Tryd.sizeOf21
 v21 := Tryd.zeroValue21
 t46 := Tryd.underlying92
 a46 := Tryd.isAgg92
 z46 := Tryd.sizeOf92
 v46 := Tryd.zeroValue92 }
open Go.RowKit Go.Lib in
theorem Tryd.strings_IndexRune_ascii (s : ByteArray) (r : Int) (w : World) (h0 : 0 ≤ r) (h1 : r < 128) :
  Calls Tryd.prog 41 #[.string s, .int .i32 r] w fun e w' => e = .returned (.int .i64 (Lib.indexByte s.data.toList r.toNat.toUInt8)) ∧ w' = w := Any.strings_IndexRune_ascii Tryd.lays152 s r w h0 h1
def Tryd.lays226_ren : Go.Shelf.Ren := ⟨fun | 226 => 42 | n => n, fun | 3 => 3 | 4 => 4 | n => n, fun | n => n⟩
theorem Tryd.lays226 : Go.Proofs.Lays.n226 Tryd.prog Tryd.lays226_ren := {
 mixed := by kernel_rfl
 f226 := Tryd.func42.trans (congrArg some (by kernel_rfl))
 t3 := Tryd.underlying3
 a3 := Tryd.isAgg3
 z3 := Tryd.sizeOf3
 v3 := Tryd.zeroValue3
 t4 := Tryd.underlying4
 a4 := Tryd.isAgg4
 z4 := Tryd.sizeOf4
 v4 := Tryd.zeroValue4 }
open Go.RowKit Go.Lib in
theorem Tryd.strings_shouldUseASCIISet (n : Int) (w : World) :
  Calls Tryd.prog 42 #[.int .i64 n] w fun e w' => e = .returned (.bool (decide (8 < n))) ∧ w' = w := Any.strings_shouldUseASCIISet Tryd.lays226 n w
def Tryd.lays153_ren : Go.Shelf.Ren := ⟨fun | 153 => 28 | 152 => 41 | 226 => 42 | 227 => 43 | 228 => 44 | 137 => 56 | 119 => 57 | 224 => 58 | 225 => 59 | 217 => 60 | 266 => 73 | n => n, fun | 9 => 9 | 3 => 3 | 4 => 4 | 5 => 5 | 21 => 21 | 117 => 72 | 116 => 71 | 0 => 0 | 46 => 92 | 124 => 93 | n => n, fun | n => n⟩
theorem Tryd.lays153 : Go.Proofs.Lays.n153 Tryd.prog Tryd.lays153_ren := {
 mixed := by kernel_rfl
 f119 := Tryd.func57.trans (congrArg some (by kernel_rfl))
 f137 := Tryd.func56.trans (congrArg some (by kernel_rfl))
 f152 := Tryd.func41.trans (congrArg some (by kernel_rfl))
 f153 := Tryd.func28.trans (congrArg some (by kernel_rfl))
 f217 := Tryd.func60.trans (congrArg some (by kernel_rfl))
 f224 := Tryd.func58.trans (congrArg some (by kernel_rfl))
 f225 := Tryd.func59.trans (congrArg some (by kernel_rfl))
 f226 := Tryd.func42.trans (congrArg some (by kernel_rfl))
 f227 := Tryd.func43.trans (congrArg some (by kernel_rfl))
 f228 := Tryd.func44.trans (congrArg some (by kernel_rfl))
 f266 := Tryd.func73.trans (congrArg some (by kernel_rfl))
 t0 := Tryd.underlying0
 a0 := Tryd.isAgg0
 z0 := Tryd.sizeOf0
 v0 := Tryd.zeroValue0
 t3 := Tryd.underlying3
 a3 := Tryd.isAgg3
 z3 := Tryd.sizeOf3
 v3 := Tryd.zeroValue3
 t4 := Tryd.underlying4
 a4 := Tryd.isAgg4
 z4 := Tryd.sizeOf4
 v4 := Tryd.zeroValue4
 t5 := Tryd.underlying5
 a5 := Tryd.isAgg5
 z5 := Tryd.sizeOf5
 v5 := Tryd.zeroValue5
 t9 := Tryd.underlying9
 a9 := Tryd.isAgg9
 z9 := Tryd.sizeOf9
 v9 := Tryd.zeroValue9
 t21 := Tryd.underlying21
 a21 := Tryd.isAgg21
 z21 := Tryd.sizeOf21
 v21 := Tryd.zeroValue21
 t46 := Tryd.underlying92
 a46 := Tryd.isAgg92
 z46 := Tryd.sizeOf92
 v46 := Tryd.zeroValue92
 t116 := Tryd.underlying71
 a116 := Tryd.isAgg71
 z116 := Tryd.sizeOf71
 t117 := Tryd.underlying72
 a117 := Tryd.isAgg72
 z117 := Tryd.sizeOf72
 v117 := Tryd.zeroValue72
 t124 := Tryd.underlying93
 a124 := Tryd.isAgg93
 z124 := Tryd.sizeOf93
 v124 := Tryd.zeroValue93 }
open Go.RowKit Go.Lib in
theorem Tryd.strings_IndexAny_long (hv116 : ∀ w, (zeroValue 71).run Tryd.prog w = .ok (.agg (Array.replicate 256 (.bool false))) w) (s chars : ByteArray) (w : World) (h2 : 2 ≤ chars.size) (h8 : 8 < s.size) (hs : s.size < 4294967281) (hcs : chars.size < 4294967281) (hascii : ∀ (j : Nat) b, chars.data.toList[j]? = some b → b.toNat < 128) :
  Calls Tryd.prog 28 #[.string s, .string chars] w fun e w' => e = .returned (.int .i64 (Lib.indexAny s.data.toList chars.data.toList)) ∧ w' = ((w.alloc (.cells (Lib.setCells chars.data.toList) 71)).alloc (.cells (Lib.setCells chars.data.toList) 71)) := Any.strings_IndexAny_long Tryd.lays153 hv116 (by kernel_rfl) s chars w h2 h8 hs hcs hascii
def Tryd.lays150_ren : Go.Shelf.Ren := ⟨fun | 150 => 17 | 153 => 28 | 152 => 41 | 226 => 42 | 227 => 43 | 228 => 44 | 137 => 56 | 119 => 57 | 224 => 58 | 225 => 59 | 217 => 60 | 266 => 73 | n => n, fun | 9 => 9 | 4 => 4 | 3 => 3 | 5 => 5 | 21 => 21 | 117 => 72 | 116 => 71 | 0 => 0 | 46 => 92 | 124 => 93 | n => n, fun | n => n⟩
theorem Tryd.lays150 : Go.Proofs.Lays.n150 Tryd.prog Tryd.lays150_ren := {
 mixed := by kernel_rfl
 f119 := Tryd.func57.trans (congrArg some (by kernel_rfl))
 f137 := Tryd.func56.trans (congrArg some (by kernel_rfl))
 f150 := Tryd.func17.trans (congrArg some (by kernel_rfl))
 f152 := Tryd.func41.trans (congrArg some (by kernel_rfl))
 f153 := Tryd.func28.trans (congrArg some (by kernel_rfl))
 f217 := Tryd.func60.trans (congrArg some (by kernel_rfl))
 f224 := Tryd.func58.trans (congrArg some (by kernel_rfl))
 f225 := Tryd.func59.trans (congrArg some (by kernel_rfl))
 f226 := Tryd.func42.trans (congrArg some (by kernel_rfl))
 f227 := Tryd.func43.trans (congrArg some (by kernel_rfl))
 f228 := Tryd.func44.trans (congrArg some (by kernel_rfl))
 f266 := Tryd.func73.trans (congrArg some (by kernel_rfl))
 t0 := Tryd.underlying0
 a0 := Tryd.isAgg0
 z0 := Tryd.sizeOf0
 v0 := Tryd.zeroValue0
 t3 := Tryd.underlying3
 a3 := Tryd.isAgg3
 z3 := Tryd.sizeOf3
 v3 := Tryd.zeroValue3
 t4 := Tryd.underlying4
 a4 := Tryd.isAgg4
 z4 := Tryd.sizeOf4
 v4 := Tryd.zeroValue4
 t5 := Tryd.underlying5
 a5 := Tryd.isAgg5
 z5 := Tryd.sizeOf5
 v5 := Tryd.zeroValue5
 t9 := Tryd.underlying9
 a9 := Tryd.isAgg9
 z9 := Tryd.sizeOf9
 v9 := Tryd.zeroValue9
 t21 := Tryd.underlying21
 a21 := Tryd.isAgg21
 z21 := Tryd.sizeOf21
 v21 := Tryd.zeroValue21
 t46 := Tryd.underlying92
 a46 := Tryd.isAgg92
 z46 := Tryd.sizeOf92
 v46 := Tryd.zeroValue92
 t116 := Tryd.underlying71
 a116 := Tryd.isAgg71
 z116 := Tryd.sizeOf71
 t117 := Tryd.underlying72
 a117 := Tryd.isAgg72
 z117 := Tryd.sizeOf72
 v117 := Tryd.zeroValue72
 t124 := Tryd.underlying93
 a124 := Tryd.isAgg93
 z124 := Tryd.sizeOf93
 v124 := Tryd.zeroValue93 }
open Go.RowKit Go.Lib in
theorem Tryd.strings_ContainsAny_laid (s chars : ByteArray) (w : World) (hs : s.size < 4294967281) (hcs : chars.size < 4294967281) (has : ∀ (j : Nat) b, s.data.toList[j]? = some b → b.toNat < 128) (hac : ∀ (j : Nat) b, chars.data.toList[j]? = some b → b.toNat < 128) :
  Calls Tryd.prog 17 #[.string s, .string chars] w fun e w' => e = .returned (.bool (Lib.containsAny s.data.toList chars.data.toList)) ∧ Below w.heap.size w w' := Any.strings_ContainsAny_laid Tryd.lays150 (by kernel_rfl) s chars w hs hcs has hac
end Go.Proofs
end
section
namespace Go.Proofs.YtdbadfcekomomaaDoor.M
open Go.RowKit Go.Proofs.YtdbadfcekomomaaDoorW.PrintWords
set_option linter.unusedVariables false
theorem le_rounds {α : Type} {g : Nat → Option α} (hm : ∀ k, LeO (g k) (g (k + 1))) {k : Nat} {r : α} (h : g k = some r) : ∀ {m : Nat}, k ≤ m → g m = some r := by
 intro m hk
 induction m with
 | zero =>
  obtain rfl : k = 0 := by omega
  exact h
 | succ m ih =>
  by_cases e : k = m + 1
  ·subst e; exact h
  ·exact hm m r (ih (by omega))
theorem ba_eta (a : ByteArray) : a = ⟨a.data.toList.toArray⟩ := by cases a; rfl
theorem toList_data (a : ByteArray) : a.toList = a.data.toList := ByteArray.toList_eq a
theorem ext_from (a : ByteArray) (i : Nat) : a.extract i a.size = ⟨(a.data.toList.drop i).toArray⟩ := by
 rw [ba_eta (a.extract i a.size), Lib.extract_to_end]
theorem bt_get (a : ByteArray) (i : Nat) (h : i < a.size) : bt a (i : Int) = (a.data.toList[i]'(by simpa using h)).toNat := by
 unfold bt
 simp only [Int.toNat_natCast, h, dif_pos]
 rfl
theorem ba_size (l : List UInt8) : (⟨l.toArray⟩ : ByteArray).size = l.length := by show l.toArray.size = _; simp
theorem ba_list (l : List UInt8) : (⟨l.toArray⟩ : ByteArray).data.toList = l := by simp
theorem size_list (s : ByteArray) : s.size = s.data.toList.length := rfl
theorem ext_mid (s : ByteArray) (i j : Nat) : s.extract i j = ⟨((s.data.toList.drop i).take (j - i)).toArray⟩ := by
 rw [ba_eta (s.extract i j), Lib.extract_data]
theorem wrap_small {x : Int} (h0 : 0 ≤ x) (h1 : x < 9223372036854775808) : wrap64 x = x := by unfold wrap64; omega
end Go.Proofs.YtdbadfcekomomaaDoor.M
end
section
namespace Go.Proofs.YtdbadfcekomomaaDoor.M
open Go.RowKit Go.Proofs.YtdbadfcekomomaaDoorW.PrintWords
set_option linter.unusedVariables false
set_option maxHeartbeats 4000000 in
set_option maxRecDepth 1000000 in
theorem indexRune_err (w : World) : Calls Tryd.prog 41 #[.string ⟨#[32, 61]⟩, .int .i32 65533] w fun e w' => e = .returned (.int .i64 (-1)) ∧ Below w.heap.size w w' := by
 go_enter Tryd.func41, Tryd.ntmps41
 go_wp2
 go_loopg [5, 6] 2 (fun g _ _ wx => ∃ i : Nat, i + g = 2 ∧ wx = w.iter ⟨#[32, 61]⟩ i)
 case atStart => exact ⟨0, rfl, rfl⟩
 case round =>
  obtain ⟨i, hig, rfl⟩ := hrel
  cases gk with
  | zero =>
   obtain rfl : i = 2 := by omega
   have hnx := fun ty => run_next_end (P := Tryd.prog) w ⟨#[32, 61]⟩ 2 ty (by decide)
   go_wp2
   go_ret
   exact ⟨rfl, below_alloc (Below.refl _ _) _⟩
  | succ g =>
   have hi : i = 0 ∨ i = 1 := by omega
   rcases hi with rfl | rfl
   ·have hnx : ∀ ty, (Instr.next (.pointer (some ⟨w.heap.size, 0, none⟩)) true ty).run Tryd.prog (w.iter ⟨#[32, 61]⟩ 0) = .ok (.tuple #[.bool true, .int .i64 0, .int .i32 32]) (w.iter ⟨#[32, 61]⟩ 1) := fun ty => run_next_ascii (P := Tryd.prog) w ⟨#[32, 61]⟩ 0 ty (by decide) (by decide)
    go_wp2
    go_roundg g
    case measure => omega
    case rel => exact ⟨1, by omega, rfl⟩
   ·have hnx : ∀ ty, (Instr.next (.pointer (some ⟨w.heap.size, 0, none⟩)) true ty).run Tryd.prog (w.iter ⟨#[32, 61]⟩ 1) = .ok (.tuple #[.bool true, .int .i64 1, .int .i32 61]) (w.iter ⟨#[32, 61]⟩ 2) := fun ty => run_next_ascii (P := Tryd.prog) w ⟨#[32, 61]⟩ 1 ty (by decide) (by decide)
    go_wp2
    go_roundg g
    case measure => omega
    case rel => exact ⟨2, by omega, rfl⟩
set_option maxHeartbeats 4000000 in
set_option maxRecDepth 1000000 in
theorem indexRune_bad (r : Int) (h0 : 128 ≤ r) (hne : r ≠ 65533) (hv : Lib.validRune r = false) (w : World) : Calls Tryd.prog 41 #[.string ⟨#[32, 61]⟩, .int .i32 r] w fun e w' => e = .returned (.int .i64 (-1)) ∧ Below w.heap.size w w' := by
 have h1 : (r == 65533) = false := beq_eq_false_iff_ne.2 hne
 have h2 : decide (0 ≤ r) = true := decide_eq_true (by omega)
 have h3 : decide (r < 128) = false := decide_eq_false (by omega)
 go_enter Tryd.func41, Tryd.ntmps41
 go_wp2_with (go_at_call 57; refine (Tryd.utf8_ValidRune r _).mono ?_; rintro e w' ⟨rfl, hw⟩; rw [hw, hv])
 go_ret
 exact ⟨rfl, Below.refl _ _⟩
set_option maxHeartbeats 8000000 in
set_option maxRecDepth 1000000 in
theorem indexRune_valid (r : Int) (h0 : 128 ≤ r) (hne : r ≠ 65533) (hv : Lib.validRune r = true) (w : World) : Calls Tryd.prog 41 #[.string ⟨#[32, 61]⟩, .int .i32 r] w fun e w' => e = .returned (.int .i64 (-1)) ∧ Below w.heap.size w w' := by
 have h1 : (r == 65533) = false := beq_eq_false_iff_ne.2 hne
 have h2 : decide (0 ≤ r) = true := decide_eq_true (by omega)
 have h3 : decide (r < 128) = false := decide_eq_false (by omega)
 obtain ⟨e1, e2, e3⟩ := encode_facts r (by rw [validRune_eq]; exact hv) h0
 generalize hrs : Utf8.encode r = rs at e1 e2 e3
 have hcv : ∀ W, (convert 21 9 (.int .i32 r)).run Tryd.prog W = .ok (.string rs) W := fun W => by rw [run_convert_int_string W 21 9 .i32 r (by rw [Tryd.underlying21]; rfl) Tryd.underlying9, hrs]
 have hw1 : wrap64 ((rs.size : Int) - 1) = ((rs.size - 1 : Nat) : Int) := by rw [Go.Proofs.YtdbadfcekomomaaDoor.M.wrap_small (by omega) (by omega)]; omega
 go_enter Tryd.func41, Tryd.ntmps41
 go_wp2_with (go_at_call 57; refine (Tryd.utf8_ValidRune r _).mono ?_; rintro e w' ⟨rfl, hw⟩; rw [hw, hv])
 refine wp_scope_straight ?_
 go_wp2
 go_loopg [9, 10, 11, 12] 0 (fun _ s9 s10 s11 s12 wx => s9 = .int .i64 ((rs.size : Int) - 1) ∧ wx = w)
 case atStart => exact ⟨rfl, rfl⟩
 case round =>
  obtain ⟨rfl, rfl⟩ := hrel
  by_cases h2s : rs.size = 2
  ·have e9 : (rs.size : Int) - 1 = 1 := by omega
   obtain ⟨c, hc⟩ : ∃ c : UInt8, rs[1]'(by omega) = c := ⟨_, rfl⟩
   have hcc : 128 ≤ c.toNat := by
    have h := e3 (by omega)
    have : rs[rs.size - 1]'(by omega) = c := by rw [← hc]; congr 1; omega
    rw [this] at h
    exact h
   have hcn : ((((⟨#[32, 61]⟩ : ByteArray)[1]'(by decide)).toNat : Int) != (c.toNat : Int)) = true := bne_iff_ne.2 (by show (61 : Int) ≠ _; omega)
   rw [e9]
   have h1s : (1 : Nat) < rs.size := by omega
   have hib : Lib.indexByte [] c = -1 := rfl
   go_wp2
   refine wp_scope_straight ?_
   go_wp2
   repeat (go_quiet (fail); try go_wp2)
   go_region_with (go_at_call 56; refine (Tryd.strings_IndexByte _ _ _).mono ?_; rintro e w' ⟨rfl, hw⟩; rw [hw])
   all_goals (go_wp2; (repeat (go_quiet (fail); try go_wp2)); simp only [Exit.noGoto, Exit.inBlock, Exit.then]; go_ret; exact ⟨rfl, pw_below_drewN (Below.refl _ _) _⟩)
  ·have hlt : decide ((rs.size : Int) - 1 < 2) = false := decide_eq_false (by omega)
   go_wp2
   simp only [Exit.noGoto]
   simp only [Exit.inBlock]
   go_ret
   exact ⟨rfl, Below.refl _ _⟩
theorem indexRune_high (r : Int) (h0 : 128 ≤ r) (w : World) : Calls Tryd.prog 41 #[.string ⟨#[32, 61]⟩, .int .i32 r] w fun e w' => e = .returned (.int .i64 (-1)) ∧ Below w.heap.size w w' := by
 by_cases h : r = 65533
 ·subst h; exact indexRune_err w
 ·cases hv : Lib.validRune r with
  | true => exact indexRune_valid r h0 h hv w
  | false => exact indexRune_bad r h0 h hv w
/-- All bytes of a rune beyond ASCII are beyond ASCII. -/
theorem decode_span (s : ByteArray) (pos : Nat) (h : pos < s.size) (ha : 128 ≤ (s[pos]'h).toNat) (m : Nat) (hm : m < (Utf8.decode s pos).2) : pos + m < s.size ∧ 128 ≤ (s.get! (pos + m)).toNat := by
 have h0 : 128 ≤ (s.get! (pos + 0)).toNat := by rw [get_at s pos h]; exact ha
 have hn : ¬ (s.get! (pos + 0)).toNat < 128 := by omega
 have f : ∀ k, (decide (pos + k < s.size) && (s.get! (pos + k)).toNat / 64 == 2) = true → pos + k < s.size ∧ 128 ≤ (s.get! (pos + k)).toNat := by
  intro k hk
  rw [Bool.and_eq_true, decide_eq_true_eq, beq_iff_eq] at hk
  exact ⟨hk.1, by omega⟩
 have z : pos + 0 < s.size ∧ 128 ≤ (s.get! (pos + 0)).toNat := ⟨by omega, h0⟩
 unfold Utf8.decode at hm
 simp only [hn, if_false] at hm
 split at hm
 ·rename_i hc
  rw [Bool.and_eq_true] at hc
  have f1 := f 1 hc.2
  have hm2 : m < 2 := by split at hm <;> (dsimp only at hm; omega)
  match m, hm2 with
  | 0, _ => exact z
  | 1, _ => exact f1
 ·split at hm
  ·rename_i hc
   rw [Bool.and_eq_true, Bool.and_eq_true] at hc
   have f1 := f 1 hc.1.2
   have f2 := f 2 hc.2
   have hm2 : m < 3 := by split at hm <;> (dsimp only at hm; omega)
   match m, hm2 with
   | 0, _ => exact z
   | 1, _ => exact f1
   | 2, _ => exact f2
  ·split at hm
   ·rename_i hc
    rw [Bool.and_eq_true, Bool.and_eq_true, Bool.and_eq_true] at hc
    have f1 := f 1 hc.1.1.2
    have f2 := f 2 hc.1.2
    have f3 := f 3 hc.2
    have hm2 : m < 4 := by split at hm <;> (dsimp only at hm; omega)
    match m, hm2 with
    | 0, _ => exact z
    | 1, _ => exact f1
    | 2, _ => exact f2
    | 3, _ => exact f3
   ·dsimp only at hm
    obtain rfl : m = 0 := by omega
    exact z
theorem noAny_span (s : ByteArray) (i d : Nat) (h : Lib.NoAny s.data.toList [32, 61] i) (hd : ∀ m, m < d → i + m < s.size ∧ 128 ≤ (s.get! (i + m)).toNat) : Lib.NoAny s.data.toList [32, 61] (i + d) := by
 intro j b hj hb
 by_cases hji : j < i
 ·exact h j b hji hb
 ·obtain ⟨h1, h2⟩ := hd (j - i) (by omega)
  rw [show i + (j - i) = j by omega] at h1 h2
  have hL : j < s.data.toList.length := (List.getElem?_eq_some_iff.1 hb).1
  have hg : s.get! j = b := by
   have e := get_at s j h1
   rw [Nat.add_zero] at e
   rw [e]
   have := Lib.data_getElem? s j h1
   rw [hb] at this
   exact (Option.some.inj this).symm
  rw [hg] at h2
  simp
  constructor
  ·rintro rfl; exact absurd h2 (by decide)
  ·rintro rfl; exact absurd h2 (by decide)
set_option maxHeartbeats 8000000 in
set_option maxRecDepth 1000000 in
theorem indexAny_short (s : ByteArray) (w : World) (h8 : s.size ≤ 8) :
  Calls Tryd.prog 28 #[.string s, .string ⟨#[32, 61]⟩] w fun e w' => e = .returned (.int .i64 (Lib.indexAny s.data.toList [32, 61])) ∧ Below w.heap.size w w' := by
 have h8z : decide ((8 : Int) < (s.size : Int)) = false := decide_eq_false (by omega)
 have h8y : decide (8 < s.size) = false := decide_eq_false (by omega)
 go_enter Tryd.func28, Tryd.ntmps28
 go_wp2_with (go_at_call 42; refine (Tryd.strings_shouldUseASCIISet _ _).mono ?_; rintro e w' ⟨rfl, hw⟩; rw [hw, h8z])
 go_loopg [9, 10] s.size (fun g _ _ wx => ∃ i : Nat, g = s.size - i ∧ wx.heap[w.heap.size]? = some (.stringIter s i) ∧ Below w.heap.size w wx ∧ Lib.NoAny s.data.toList [32, 61] i)
 case atStart => exact ⟨0, rfl, World.iter_heap w s 0, below_alloc (Below.refl _ _) _, Lib.NoAny.zero _ _⟩
 case round =>
  obtain ⟨i, rfl, hk, hb, hno⟩ := hrel
  have HN := Aside0.mk hno
  clear hno
  by_cases hi : i < s.size
  ·obtain ⟨x, hx⟩ : ∃ x : UInt8, s[i]'hi = x := ⟨_, rfl⟩
   have hxl : s.data.toList[i]? = some x := by rw [← hx]; exact Lib.data_getElem? s i hi
   have HX := Aside0.mk hxl
   clear hxl
   have hnx : ∀ ty, (Instr.next (.pointer (some ⟨w.heap.size, 0, none⟩)) true ty).run Tryd.prog wr = _ := fun ty => Lib.run_next_any_at wr w.heap.size s i ty hk hi
   have hk1 := Lib.iterAt_heap wr w.heap.size s i (i + (Utf8.decode s i).2) hk
   have hb1 : Below w.heap.size w (wr.iterAt w.heap.size s (i + (Utf8.decode s i).2)) := Lib.below_iterAt hb (Nat.le_refl _) s _
   generalize wr.iterAt w.heap.size s (i + (Utf8.decode s i).2) = W1 at hnx hk1 hb1
   by_cases hx128 : x.toNat < 128
   ·have hd := decode_ascii s i hi (by rw [hx]; exact hx128)
    rw [hx] at hd
    rw [hd] at hnx hk1
    dsimp only at hnx hk1
    have hcon := Lib.contains_iff_indexByte [32, 61] x
    have hback : ((x.toNat : Int)).toNat.toUInt8 = x := by simp
    cases hin : ([32, 61] : List UInt8).contains x
    ·rw [hin] at hcon
     have hlt : ¬ ((0 : Int) ≤ Lib.indexByte [32, 61] x) := of_decide_eq_false hcon.symm
     clear hcon
     go_wp2_with (go_at_call 41; refine (Tryd.strings_IndexRune_ascii _ _ _ (by omega) (by omega)).mono ?_; rintro e w' ⟨rfl, hw⟩; rw [hw, hback])
     go_roundg (s.size - (i + 1))
     case measure => omega
     case rel => exact ⟨i + 1, rfl, hk1, hb1, HN.out.succ HX.out hin⟩
    ·rw [hin] at hcon
     have hge : (0 : Int) ≤ Lib.indexByte [32, 61] x := of_decide_eq_true hcon.symm
     clear hcon
     go_wp2_with (go_at_call 41; refine (Tryd.strings_IndexRune_ascii _ _ _ (by omega) (by omega)).mono ?_; rintro e w' ⟨rfl, hw⟩; rw [hw, hback])
     go_ret
     exact ⟨by rw [Lib.indexAny_hit HN.out HX.out hin]; rfl, hb1⟩
   ·have hh := decode_high s i hi (by rw [hx]; omega)
    have hsp := noAny_span s i (Utf8.decode s i).2 HN.out (decode_span s i hi (by rw [hx]; omega))
    have hle := decode_le s i
    generalize (Utf8.decode s i).1 = rv at hnx hh hle
    generalize (Utf8.decode s i).2 = dw at hnx hk1 hh hsp
    have HSP := Aside0.mk hsp
    clear hsp
    have hm1 : ¬ ((0 : Int) ≤ -1) := by decide
    go_wp2_with (go_at_call 41; refine (indexRune_high _ (by omega) _).mono ?_; rintro e W2 ⟨rfl, hb2⟩; have hk2 := (hb2.block w.heap.size (Array.getElem?_eq_some_iff.1 hk1).1).trans hk1; have hb3 := below_then hb1 hb1.size hb2)
    go_roundg (s.size - (i + dw))
    case measure => omega
    case rel => exact ⟨i + dw, rfl, hk2, hb3, HSP.out⟩
  ·have hnx : ∀ ty, (Instr.next (.pointer (some ⟨w.heap.size, 0, none⟩)) true ty).run Tryd.prog wr = _ := fun ty => Lib.run_next_end_at wr w.heap.size s i ty hk hi
   go_wp2
   go_ret
   refine ⟨by rw [Lib.indexAny_none (fun j b hj hb => HN.out j b (by rw [← size_list] at hj; omega) hb)]; rfl, hb⟩
set_option maxRecDepth 100000 in
/-- strings.IndexAny of any text and " =". -/
theorem indexAny_sp (s : ByteArray) (w : World) (hs : s.size < 4294967281) :
  Calls Tryd.prog 28 #[.string s, .string ⟨#[32, 61]⟩] w fun e w' => e = .returned (.int .i64 (Lib.indexAny s.data.toList [32, 61])) ∧ Below w.heap.size w w' := by
 by_cases h8 : s.size ≤ 8
 ·exact indexAny_short s w h8
 ·refine (Tryd.strings_IndexAny_long (fun w => ?_) s ⟨#[32, 61]⟩ w (by decide) (by omega) hs (by decide) ?_).mono ?_
  ·exact (zero_of_info (show (Tryd.prog.info? 70).map (fun i => (i.zero, i.size)) = some (some (.agg (Array.replicate 256 (.bool false))), 256) by kernel_rfl)).1 w
  ·intro j b hj
   match j, hj with
   | 0, hj => simp at hj; subst hj; decide
   | 1, hj => simp at hj; subst hj; decide
   | (j + 2), hj => simp at hj
  ·rintro e w' ⟨rfl, rfl⟩
   exact ⟨rfl, below_alloc (below_alloc (Below.refl _ _) _) _⟩
end Go.Proofs.YtdbadfcekomomaaDoor.M
end
section
namespace Go.Proofs.YtdbadfcekomomaaDoor.M
open Go.RowKit Go.Proofs.YtdbadfcekomomaaDoorW.PrintWords
set_option linter.unusedVariables false
def allAscii (l : List UInt8) : Bool := l.all fun b => decide (b.toNat < 128)
def strings_ContainsAny.f (a0 a1 : ByteArray) : Option Bool := if a0.size < 4294967281 ∧ a1.size < 4294967281 ∧ (allAscii a0.data.toList = true ∨ a1.data.toList = [32, 61]) ∧ allAscii a1.data.toList = true then some (Lib.containsAny a0.data.toList a1.data.toList) else none
theorem allAscii_at {l : List UInt8} (h : allAscii l = true) : ∀ (j : Nat) b, l[j]? = some b → b.toNat < 128 := by
 intro j b hj
 simpa using List.all_eq_true.1 h b (List.mem_of_getElem? hj)
set_option maxRecDepth 100000 in
theorem strings_ContainsAny.calls (a0 a1 : ByteArray) (r : Bool) (w : World) (h : strings_ContainsAny.f a0 a1 = some r) :
  Calls Tryd.prog 17 #[.string a0, .string a1] w fun e w' => e = .returned (.bool r) ∧ Below w.heap.size w w' := by
 unfold strings_ContainsAny.f at h
 split at h
 case isFalse => cases h
 rename_i hb
 obtain rfl := Option.some.inj h
 rcases hb.2.2.1 with h3 | h3
 ·exact Tryd.strings_ContainsAny_laid a0 a1 w hb.1 hb.2.1 (allAscii_at h3) (allAscii_at hb.2.2.2)
 ·have e1 : a1 = ⟨#[32, 61]⟩ := by
   rcases a1 with ⟨⟨a1⟩⟩
   have : a1 = [32, 61] := h3
   rw [this]
  subst e1
  have hx := indexAny_sp a0 w hb.1
  have hc : Lib.containsAny a0.data.toList [32, 61] = decide (0 ≤ Lib.indexAny a0.data.toList [32, 61]) := rfl
  show Calls Tryd.prog 17 #[.string a0, .string ⟨#[32, 61]⟩] w fun e w' => e = .returned (.bool (Lib.containsAny a0.data.toList [32, 61])) ∧ Below w.heap.size w w'
  rw [hc]
  clear hc h3 hb h
  generalize Lib.indexAny a0.data.toList [32, 61] = n at hx
  go_enter Tryd.func17, Tryd.ntmps17
  go_wp2_with (go_at_call 28; refine hx.mono ?_; rintro e W2 ⟨rfl, hb2⟩)
  go_ret
  exact ⟨by first | rfl | simp, hb2⟩
end Go.Proofs.YtdbadfcekomomaaDoor.M
end
section
namespace Go.Proofs.YtdbadfcekomomaaDoor.M
open Go.RowKit Go.Shelf Go.Proofs.YtdbadfcekomomaaDoorW.PrintWords
set_option linter.unusedVariables false
set_option linter.unusedSimpArgs false
attribute [local go_sem] Oper.semAt_some
/-- The parts of a text between a byte. -/
def splitB (c : UInt8) : List UInt8 → List UInt8 → List (List UInt8)
 | [], w => [w]
 | x :: r, w => if x = c then w :: splitB c r [] else splitB c r (w ++ [x])
def partsOf (c : UInt8) (s : List UInt8) : List ByteArray := (splitB c s []).map fun l => ⟨l.toArray⟩
theorem splitB_index (c : UInt8) : ∀ (l w : List UInt8), splitB c l w = if Lib.indexByte l c = -1 then [w ++ l] else (w ++ l.take (Lib.indexByte l c).toNat) :: splitB c (l.drop ((Lib.indexByte l c).toNat + 1)) []
 | [], w => by simp [splitB, Lib.indexByte]
 | x :: r, w => by
  have hge := Lib.indexByte_ge r c
  by_cases h : x = c
  ·simp [splitB, Lib.indexByte, h]
  ·have hb : (x == c) = false := by simpa using h
   simp only [splitB, if_neg h, Lib.indexByte, hb, Bool.false_eq_true, if_false]
   rw [splitB_index c r (w ++ [x])]
   by_cases hn : Lib.indexByte r c = -1
   ·rw [if_pos hn, if_pos (by simp [hn])]; simp
   ·have hb2 : (Lib.indexByte r c == -1) = false := by simpa using hn
    rw [if_neg hn, hb2]
    simp only [Bool.false_eq_true, if_false]
    rw [if_neg (by omega)]
    have e : (Lib.indexByte r c + 1).toNat = (Lib.indexByte r c).toNat + 1 := by omega
    rw [e]
    simp
theorem indexByte_lt (c : UInt8) : ∀ l : List UInt8, Lib.indexByte l c < l.length
 | [] => by simp [Lib.indexByte]
 | x :: r => by
  have := indexByte_lt c r
  simp only [Lib.indexByte, List.length_cons]
  split
  ·omega
  ·split <;> omega
def strLeft (b : Nat) (W : World) : Nat := match W.cell? ⟨b, 0, none⟩ with
 | some (.string x) => x.size
 | _ => 0
theorem splitSeq_in (l bs bp bv : Nat) (c : UInt8) (s : ByteArray) (hsz : s.size ≤ 1000000) (h1 : bs ≠ bp) (h2 : bs ≠ bv) (J : List ByteArray → World → Prop)
  (hset : ∀ pre W v, J pre W → J pre (W.setCell ⟨bs, 0, none⟩ v))
  (hY : ∀ pre x W, J pre W → x ∈ partsOf c s.data.toList → pre.length < (partsOf c s.data.toList).length → YieldAt Fence.wide 0 Tryd.prog l #[.string x] W fun e W' =>
   e = .returned (.bool true) ∧ J (pre ++ [x]) W' ∧ W'.heap[bs]? = W.heap[bs]? ∧ W'.heap[bp]? = W.heap[bp]? ∧ W'.heap[bv]? = W.heap[bv]?)
  (W : World) (hbs : W.heap[bs]? = some (.cells #[.string s] 9 (0, 0))) (hbp : W.heap[bp]? = some (.cells #[.string ⟨#[c]⟩] 9 (0, 0))) (hbv : W.heap[bv]? = some (.cells #[.int .i64 0] 3 (0, 0))) (h0 : J [] W) :
  CallsIn Fence.wide 1 Tryd.prog 63 #[.func (.yield l) #[] #[], .pointer (some ⟨bp, 0, none⟩), .pointer (some ⟨bs, 0, none⟩), .pointer (some ⟨bv, 0, none⟩)] W fun e W' => (∃ v, e = .returned v) ∧ J (partsOf c s.data.toList) W' := by
 have hc1 : W.cell? ⟨bp, 0, none⟩ = some (.string ⟨#[c]⟩) := by simp [World.cell?, hbp]
 have hc2 : W.cell? ⟨bs, 0, none⟩ = some (.string s) := by simp [World.cell?, hbs]
 have hc3 : W.cell? ⟨bv, 0, none⟩ = some (.int .i64 0) := by simp [World.cell?, hbv]
 refine callsIn_of_wp Tryd.func63 rfl trivial ?_ rfl
 simp only [Tryd.ntmps63, List.size_toArray, List.length_cons, List.length_nil, Nat.reduceAdd, Nat.reduceSub, Array.replicate_succ, Array.replicate_zero, List.push_toArray, List.append_toArray, List.nil_append, List.cons_append]
 gi_wp2
 gi_loopw [7] (fun _ wr => ∃ (pre : List ByteArray) (cur : List UInt8), cur.length ≤ 1000000 ∧ Aside0 (partsOf c s.data.toList = pre ++ partsOf c cur) ∧ Aside0 (wr.heap[bs]? = some (.cells #[.string ⟨cur.toArray⟩] 9 (0, 0))) ∧ Aside0 (wr.heap[bp]? = some (.cells #[.string ⟨#[c]⟩] 9 (0, 0))) ∧ Aside0 (wr.heap[bv]? = some (.cells #[.int .i64 0] 3 (0, 0))) ∧ Aside0 (J pre wr))
  (fun _ wr => strLeft bs wr)
 case atStart => exact ⟨[], s.data.toList, hsz, ⟨rfl⟩, ⟨hbs⟩, ⟨hbp⟩, ⟨hbv⟩, ⟨h0⟩⟩
 case round =>
  clear hc1 hc2 hc3
  obtain ⟨pre, cur, hcl, HP, HS, HB, HV, HJ⟩ := hrel
  have hc1 : wr.cell? ⟨bp, 0, none⟩ = some (.string ⟨#[c]⟩) := by simp [World.cell?, HB.out]
  have hc2 : wr.cell? ⟨bs, 0, none⟩ = some (.string ⟨cur.toArray⟩) := by simp [World.cell?, HS.out]
  have hc3 : wr.cell? ⟨bv, 0, none⟩ = some (.int .i64 0) := by simp [World.cell?, HV.out]
  have hsp := splitB_index c cur []
  have hge := Lib.indexByte_ge cur c
  have hlt := indexByte_lt c cur
  have hY' : ∀ x : ByteArray, x ∈ partsOf c cur → YieldAt Fence.wide 0 Tryd.prog l #[.string x] wr fun e W' =>
    e = .returned (.bool true) ∧ J (pre ++ [x]) W' ∧ W'.heap[bs]? = wr.heap[bs]? ∧ W'.heap[bp]? = wr.heap[bp]? ∧ W'.heap[bv]? = wr.heap[bv]? :=
   fun x hx => hY pre x wr HJ.out (by rw [HP.out]; exact List.mem_append_right _ hx) (by have := List.length_pos_of_mem hx; rw [HP.out, List.length_append]; omega)
  have HIDX : Aside0 (Calls Tryd.prog 65 #[.string ⟨cur.toArray⟩, .string ⟨#[c]⟩] wr fun e w' => e = .returned (.int .i64 (Lib.indexByte cur c)) ∧ w' = wr) := ⟨by simpa using Tryd.strings_Index_one ⟨cur.toArray⟩ c wr⟩
  by_cases hn : Lib.indexByte cur c = -1
  ·have hp1 : partsOf c cur = [⟨cur.toArray⟩] := by unfold partsOf; rw [hsp, if_pos hn]; rfl
   obtain ⟨fn, tmps, assign, body, hy, hR⟩ := hY' ⟨cur.toArray⟩ (by rw [hp1]; exact List.mem_singleton.2 rfl)
   have HY := Aside0.mk hY'
   have HR := Aside0.mk hR
   have HPP := Aside0.mk hp1
   clear hY' hR hp1 hsp
   rw [hn] at HIDX
   gi_wp2_with (fail)
   refine ⟨trivial, ?_⟩
   refine (callsIn_wide.2 HIDX.out).mono ?_
   rintro e W1 ⟨rfl, hw⟩
   rw [hw]
   clear hw
   gi_wp2_with (fail)
   refine HR.out.mono ?_
   rintro e W2 ⟨rfl, hJ2, -⟩
   have HJ2 := Aside0.mk hJ2
   clear hJ2
   gi_wp2
   go_end0
   exact ⟨⟨_, rfl⟩, by rw [HP.out, HPP.out]; exact HJ2.out⟩
  ·obtain ⟨q, hq⟩ : ∃ q : Nat, Lib.indexByte cur c = (q : Int) := ⟨(Lib.indexByte cur c).toNat, by omega⟩
   have hql : q < cur.length := by omega
   rw [if_neg hn, hq, Int.toNat_natCast, List.nil_append] at hsp
   have hx1 : (⟨cur.toArray⟩ : ByteArray).extract 0 q = ⟨(cur.take q).toArray⟩ := by rw [ext_mid]; simp
   have hx2 : (⟨cur.toArray⟩ : ByteArray).extract (q + 1) cur.length = ⟨(cur.drop (q + 1)).toArray⟩ := by rw [← ba_size cur, ext_from]
   have hp1 : partsOf c cur = ⟨(cur.take q).toArray⟩ :: partsOf c (cur.drop (q + 1)) := by unfold partsOf; rw [hsp]; rfl
   obtain ⟨fn, tmps, assign, body, hy, hR⟩ := hY' ((⟨cur.toArray⟩ : ByteArray).extract 0 q) (by rw [hp1, hx1]; exact List.mem_cons_self)
   have HY := Aside0.mk hY'
   have HR := Aside0.mk hR
   have HPP := Aside0.mk hp1
   have HX1 := Aside0.mk hx1
   have HX2 := Aside0.mk hx2
   rw [hq] at HIDX
   have hsz2 : (⟨cur.toArray⟩ : ByteArray).size = cur.length := ba_size cur
   have HSZ := Aside0.mk hsz2
   clear hY' hR hp1 hsp hx1 hx2 hn hge hlt hq
   gi_wp2_with (fail)
   refine ⟨trivial, ?_⟩
   refine (callsIn_wide.2 HIDX.out).mono ?_
   rintro e W1 ⟨rfl, hw⟩
   rw [hw]
   clear hw
   gi_wp2_with (fail)
   refine HR.out.mono ?_
   rintro e W2 ⟨rfl, hJ2, k1, k2, k3⟩
   rw [HX1.out] at hJ2
   have HJ2 := Aside0.mk hJ2
   have HS2 := Aside0.mk (k1.trans HS.out)
   have HB2 := Aside0.mk (k2.trans HB.out)
   have HV2 := Aside0.mk (k3.trans HV.out)
   clear hJ2 k1 k2 k3 hc1 hc2 hc3
   have hc1 : W2.cell? ⟨bp, 0, none⟩ = some (.string ⟨#[c]⟩) := by simp [World.cell?, HB2.out]
   have hc2 : W2.cell? ⟨bs, 0, none⟩ = some (.string ⟨cur.toArray⟩) := by simp [World.cell?, HS2.out]
   have hf2 : W2.frozen? ⟨bs, 0, none⟩ = false := by simp [World.frozen?, HS2.out]
   gi_wp2
   rw [HX2.out]
   refine ⟨⟨pre ++ [⟨(cur.take q).toArray⟩], cur.drop (q + 1), by rw [List.length_drop]; omega, ⟨by rw [HP.out, HPP.out]; simp⟩, ⟨one_setCell HS2.out⟩, ⟨(heap_setCell_other _ _ _ _ (fun e => h1 e.symm)).trans HB2.out⟩, ⟨(heap_setCell_other _ _ _ _ (fun e => h2 e.symm)).trans HV2.out⟩, ⟨hset _ _ _ HJ2.out⟩⟩, ?_⟩
   have m1 : strLeft bs (W2.setCell ⟨bs, 0, none⟩ (.string ⟨(cur.drop (q + 1)).toArray⟩)) = (cur.drop (q + 1)).length := by
    unfold strLeft
    rw [World.cell?_setCell_same' _ _ _ (by rw [hc2]; rfl)]
    exact ba_size _
   have m2 : strLeft bs wr = cur.length := by
    unfold strLeft
    rw [show wr.cell? ⟨bs, 0, none⟩ = some (.string ⟨cur.toArray⟩) by simp [World.cell?, HS.out]]
    exact ba_size _
   rw [m1, m2, List.length_drop]
   omega
end Go.Proofs.YtdbadfcekomomaaDoor.M
end
section
namespace Go.Proofs.YtdbadfcekomomaaDoor.M
open Go.RowKit Go.Proofs.YtdbadfcekomomaaDoorW.PrintWords
set_option linter.unusedVariables false
set_option linter.unusedSimpArgs false
def hexD (c : UInt8) : Nat := if c.toNat ≤ 57 then c.toNat - 48 else c.toNat - 55
def isHexU (c : UInt8) : Bool := decide (48 ≤ c.toNat ∧ c.toNat ≤ 57) || decide (65 ≤ c.toNat ∧ c.toNat ≤ 70)
def hexFold : Nat → List UInt8 → Nat
 | acc, [] => acc
 | acc, c :: l => hexFold (acc * 16 + hexD c) l
def hexNum (l : List UInt8) : Nat := hexFold 0 l
theorem hexD_lt (c : UInt8) (h : isHexU c = true) : hexD c < 16 := by
 simp only [isHexU, Bool.or_eq_true, decide_eq_true_eq] at h
 unfold hexD
 split <;> omega
theorem hexFold_lt : ∀ (l : List UInt8) (acc n : Nat), l.all isHexU = true → acc < 16 ^ n → hexFold acc l < 16 ^ (n + l.length)
 | [], acc, n, _, h => by rw [hexFold]; simpa using h
 | c :: l, acc, n, ha, h => by
  simp only [List.all_cons, Bool.and_eq_true] at ha
  have h1 := hexD_lt c ha.1
  rw [hexFold, List.length_cons, show n + (l.length + 1) = (n + 1) + l.length by omega]
  exact hexFold_lt l _ (n + 1) ha.2 (by rw [Nat.pow_succ]; omega)
theorem or32 (c : Nat) (h0 : 65 ≤ c) (h1 : c ≤ 70) : Go.bits .or .u8 (c : Int) 32 = ((c + 32 : Nat) : Int) := by
 have h : ∀ n : Fin 6, Go.bits .or .u8 ((65 + n.val : Nat) : Int) 32 = ((65 + n.val + 32 : Nat) : Int) := by decide
 have := h ⟨c - 65, by omega⟩
 rw [show 65 + (c - 65) = c by omega] at this
 exact this
theorem lower_same (c : Nat) (h0 : 65 ≤ c) (h1 : c ≤ 70) (w : World) :
  Calls Tryd.prog 77 #[.int .u8 (c : Int)] w fun e w' => e = .returned (.int .u8 ((c : Int) + 32)) ∧ w = w' := by
 have hor := or32 c h0 h1
 have e : ((c + 32 : Nat) : Int) = (c : Int) + 32 := by omega
 rw [e] at hor
 have h2 : (c : Int) + 32 < 256 := by omega
 go_enter Tryd.func77, Tryd.ntmps77
 go_wp2
 go_ret
 exact ⟨rfl, rfl⟩
set_option maxHeartbeats 4000000 in
set_option maxRecDepth 100000 in
theorem ParseUint_hex (t : ByteArray) (h1 : 1 ≤ t.size) (h7 : t.size ≤ 7) (hx : t.data.toList.all isHexU = true) (w : World) :
  Calls Tryd.prog 66 #[.string t, .int .i64 16, .int .i64 32] w fun e w' => e = .returned (.tuple #[.int .u64 (hexNum t.data.toList : Int), .nilIface]) ∧ Below w.heap.size w w' := by
 have hemp : t.toList.isEmpty = false := by
  rw [← decide_eq_emptyBytes]
  exact decide_eq_false (fun h => by rw [h] at h1; exact absurd h1 (by decide))
 have hcv := Lib.run_convert_string_bytes (P := Tryd.prog) w 9 34 5 t (u := .string) Tryd.underlying9 Tryd.underlying34 Tryd.underlying5
 have hB : ∀ j, j < t.size → (Lib.bytesWorld w 5 t).cell? ⟨w.heap.size, j, none⟩ = some (.int .u8 (t.data.toList.getD j 0).toNat) := fun j hj => Lib.bytesWorld_cell w 5 t j hj
 have HBW : Aside0 (Below w.heap.size w (Lib.bytesWorld w 5 t)) := ⟨bytes_below (Below.refl _ w) (Nat.le_refl _) 5 t⟩
 obtain ⟨W1, hW1⟩ : ∃ W1, W1 = Lib.bytesWorld w 5 t := ⟨_, rfl⟩
 rw [← hW1] at hcv hB HBW
 clear hW1
 obtain ⟨bs, hL⟩ : ∃ bs, bs = t.data.toList := ⟨_, rfl⟩
 have hLn : bs.length = t.size := by rw [hL, Lib.size_eq]
 rw [← hL] at hB hx ⊢
 have HX := Aside0.mk hx
 have HB := Aside0.mk hB
 clear hL hx hB
 have hmv : IntKind.u64.wrap (IntKind.u64.wrap 4294967296 - 1) = 4294967295 := by
  rw [IntKind.wrap_u64, IntKind.wrap_u64]
  decide
 go_enter Tryd.func66, Tryd.ntmps66
 go_wp2
 go_loop [12, 13, 101] (fun vu vn vi => ∃ (k acc : Nat) (a : Int), vu = .bool false ∧ vn = .int .u64 a ∧ vi = .int .i64 k ∧ k ≤ t.size ∧ Aside0 (a = (acc : Int) ∧ acc < 16 ^ k ∧ hexNum bs = hexFold acc (bs.drop k)))
  (fun _ _ vi => t.size - (intOf vi).toNat)
 case atStart => exact ⟨0, 0, 0, rfl, rfl, rfl, by omega, ⟨rfl, by decide, rfl⟩⟩
 case round =>
  obtain ⟨k, acc, a, rfl, rfl, rfl, hk, hh⟩ := hrel
  obtain ⟨ha, hacc, hdec⟩ := hh.out
  clear hh
  by_cases hkn : k < t.size
  ·have hc := HB.out k hkn
   have hdrop : bs.drop k = bs[k]'(by omega) :: bs.drop (k + 1) := List.drop_eq_getElem_cons (by omega)
   have hget : bs.getD k 0 = bs[k]'(by omega) := by simp [List.getD, List.getElem?_eq_getElem (show k < bs.length by omega)]
   have hcx : isHexU (bs[k]'(by omega)) = true := List.all_eq_true.1 HX.out _ (List.getElem_mem _)
   rw [hdrop, hexFold] at hdec
   rw [hget] at hc
   generalize bs[k]'(by omega) = c at hc hdec hcx
   have hc256 : c.toNat < 256 := c.toNat_lt
   have hlt : acc < 268435456 := Nat.lt_of_lt_of_le hacc (Nat.le_trans (Nat.pow_le_pow_right (by decide) (show k ≤ 7 by omega)) (by decide))
   have hacc2 : acc * 16 + hexD c < 16 ^ (k + 1) := by have := hexD_lt c hcx; rw [Nat.pow_succ]; omega
   have hd := hexD_lt c hcx
   simp only [isHexU, Bool.or_eq_true, decide_eq_true_eq] at hcx
   have a0 : 0 ≤ a := by omega
   have a1 : a < 268435456 := by omega
   clear hdrop hget
   rcases hcx with hdig | hdig
   ·obtain ⟨hd0, hd1⟩ := hdig
    have hD : hexD c = c.toNat - 48 := by unfold hexD; rw [if_pos hd1]
    have HN : Aside0 (a * 16 + ((c.toNat : Int) - 48) = ((acc * 16 + hexD c : Nat) : Int) ∧ acc * 16 + hexD c < 16 ^ (k + 1) ∧ hexNum bs = hexFold (acc * 16 + hexD c) (bs.drop (k + 1))) := ⟨by omega, hacc2, hdec⟩
    clear hacc hdec ha hacc2 hD hd hlt
    go_wp2
    refine ⟨⟨k + 1, acc * 16 + hexD c, a * 16 + ((c.toNat : Int) - 48), rfl, (by first | rfl | (congr 1; omega)), (by first | rfl | (congr 1; omega)), by omega, HN⟩, by simp [intOf]; omega⟩
   ·obtain ⟨hd0, hd1⟩ := hdig
    have hD : hexD c = c.toNat - 55 := by unfold hexD; rw [if_neg (by omega)]
    have HN : Aside0 (a * 16 + ((c.toNat : Int) - 55) = ((acc * 16 + hexD c : Nat) : Int) ∧ acc * 16 + hexD c < 16 ^ (k + 1) ∧ hexNum bs = hexFold (acc * 16 + hexD c) (bs.drop (k + 1))) := ⟨by omega, hacc2, hdec⟩
    have hor := or32 c.toNat hd0 hd1
    clear hacc hdec ha hacc2 hD hd hlt
    have HLOW := Aside0.mk (lower_same c.toNat hd0 hd1)
    clear hor
    go_wp2_with (go_at_call 77; refine (HLOW.out _).mono ?_; rintro e W2 ⟨rfl, rfl⟩)
    refine ⟨⟨k + 1, acc * 16 + hexD c, a * 16 + ((c.toNat : Int) - 55), rfl, (by first | rfl | (congr 1; omega)), (by first | rfl | (congr 1; omega)), by omega, HN⟩, by simp [intOf]; omega⟩
  ·have hkk : k = t.size := by omega
   subst hkk
   have hF : hexFold acc (bs.drop t.size) = acc := by rw [List.drop_eq_nil_of_le (by omega)]; rfl
   rw [hF] at hdec
   subst ha
   clear hacc hF
   go_wp2
   go_ret2
   exact ⟨rfl, HBW.out⟩
end Go.Proofs.YtdbadfcekomomaaDoor.M
end
section
namespace Go.Proofs.YtdbadfcekomomaaDoor.M
open Go.RowKit Go.Proofs.YtdbadfcekomomaaDoorW.PrintWords
set_option linter.unusedVariables false
set_option linter.unusedSimpArgs false
theorem hexNum_lt (l : List UInt8) (h7 : l.length ≤ 7) (hx : l.all isHexU = true) : hexNum l < 268435456 := by
 have h := hexFold_lt l 0 0 hx (by decide)
 rw [Nat.zero_add] at h
 exact Nat.lt_of_lt_of_le h (Nat.le_trans (Nat.pow_le_pow_right (by decide) h7) (by decide))
set_option maxHeartbeats 4000000 in
set_option maxRecDepth 100000 in
theorem ParseIntI_hex (t : ByteArray) (h1 : 1 ≤ t.size) (h7 : t.size ≤ 7) (hx : t.data.toList.all isHexU = true) (w : World) :
  Calls Tryd.prog 50 #[.string t, .int .i64 16, .int .i64 32] w fun e w' => e = .returned (.tuple #[.int .i64 (hexNum t.data.toList : Int), .nilIface]) ∧ Below w.heap.size w w' := by
 have hl := hexNum_lt t.data.toList h7 hx
 have h0 : 0 < t.size := by omega
 have HU := Aside0.mk (ParseUint_hex t h1 h7 hx w)
 obtain ⟨x, hxe⟩ : ∃ x : Int, x = (hexNum t.data.toList : Int) := ⟨_, rfl⟩
 rw [← hxe] at HU ⊢
 have hx0 : 0 ≤ x := by omega
 have hx1 : x < 268435456 := by omega
 have hemp : t.toList.isEmpty = false := by
  rw [← decide_eq_emptyBytes]
  exact decide_eq_false (fun h => by rw [h] at h1; exact absurd h1 (by decide))
 have hc := List.all_eq_true.1 hx (t.data.toList[0]'h0) (List.getElem_mem _)
 have hc2 : t[0]'h0 = t.data.toList[0]'h0 := rfl
 rw [← hc2] at hc
 have h43 : ((t[0]'h0).toNat : Int) ≠ 43 := by
  simp only [isHexU, Bool.or_eq_true, decide_eq_true_eq] at hc
  omega
 have h45 : ((t[0]'h0).toNat : Int) ≠ 45 := by
  simp only [isHexU, Bool.or_eq_true, decide_eq_true_eq] at hc
  omega
 have b43 : (((t[0]'h0).toNat : Int) == 43) = false := by simpa using h43
 have b45 : (((t[0]'h0).toNat : Int) == 45) = false := by simpa using h45
 have hcut : IntKind.u64.wrap 2147483648 = 2147483648 := by decide
 clear hx hc hc2 h43 h45 hl hxe
 go_enter Tryd.func50, Tryd.ntmps50
 go_wp2_with fail
 refine HU.out.mono ?_
 rintro e W1 ⟨rfl, hb⟩
 have HB := Aside0.mk hb
 clear hb
 go_wp2
 go_ret2
 exact ⟨rfl, HB.out⟩
set_option maxHeartbeats 4000000 in
set_option maxRecDepth 100000 in
theorem ParseInt_hex (t : ByteArray) (h1 : 1 ≤ t.size) (h7 : t.size ≤ 7) (hx : t.data.toList.all isHexU = true) (w : World) :
  Calls Tryd.prog 35 #[.string t, .int .i64 16, .int .i64 32] w fun e w' => e = .returned (.tuple #[.int .i64 (hexNum t.data.toList : Int), .nilIface]) ∧ Below w.heap.size w w' := by
 have HU := Aside0.mk (ParseIntI_hex t h1 h7 hx w)
 obtain ⟨x, hxe⟩ : ∃ x : Int, x = (hexNum t.data.toList : Int) := ⟨_, rfl⟩
 rw [← hxe] at HU ⊢
 clear hxe hx
 go_enter Tryd.func35, Tryd.ntmps35
 go_wp2_with fail
 refine HU.out.mono ?_
 rintro e W1 ⟨rfl, hb⟩
 have HB := Aside0.mk hb
 clear hb
 go_wp2
 go_ret2
 exact ⟨rfl, HB.out⟩
end Go.Proofs.YtdbadfcekomomaaDoor.M
end
section
namespace Go.Proofs.YtdbadfcekomomaaDoor.M
open Go Go.RowKit Go.Proofs.YtdbadfcekomomaaDoorW.PrintWords
set_option linter.unusedVariables false
set_option linter.unusedSimpArgs false
theorem wpIn_range_own {P : Program} {n : Nat} {g : Operand} {p : Tmp} {assign body : Code} {Q : Exit → Act → World → Prop} {a : Act} {w : World} {gf : Nat} {lb : Array Value}
  (hg : a.eval g = .func (.func gf) #[] lb) (eg : ∀ args w, (callFunc gf args).run P w = .ok (.enter gf args) w)
  (xs : List ByteArray) (bs : Nat) (hbs : bs < w.heap.size) (keep : World → World → Prop) (hkt : ∀ {A B C : World}, keep A B → keep B C → keep A C) (hkput : ∀ (A : World) (o : Obj), keep A (A.putObj (w.heap.size + 1) o))
  (hseq : ∀ (J : List ByteArray → World → Prop) (W : World), (∀ pre A v, J pre A → J pre (A.setCell ⟨bs, 0, none⟩ v)) →
   (∀ pre x A, J pre A → x ∈ xs → pre.length < xs.length → YieldAt Fence.wide 0 P (w.heap.size + 1) #[.string x] A fun e W' => e = .returned (.bool true) ∧ J (pre ++ [x]) W' ∧ keep A W') →
   (∀ k, k < w.heap.size → W.heap[k]? = w.heap[k]?) → J [] W → CallsIn Fence.wide (n - 1) P gf (#[.func (.yield (w.heap.size + 1)) #[] #[]] ++ lb) W fun e W' => (∃ v, e = .returned v) ∧ J xs W')
  (I : List ByteArray → World → Prop) (hIput : ∀ pre (A : World) o, I pre A → I pre (A.putObj (w.heap.size + 1) o)) (hIset : ∀ pre (A : World) v, I pre A → I pre (A.setCell ⟨bs, 0, none⟩ v))
  (h0 : ∀ o, I [] ((w.alloc (.deferred (some []))).alloc o)) (a₁ : ByteArray → Act)
  (hassign : ∀ (l : Nat) (x : ByteArray) (W : World) (K : Act → World → Prop), K (a₁ x) W → assign.wpIn (Fence.wide.inRound l) 0 P (Exit.then K (fun _ _ _ => False)) { tmps := (#[p].zip #[Value.string x]).foldl (fun t (p, v) => t.setIfInBounds p v) a.tmps, defers := [] } W)
  (hbody : ∀ (l : Nat) (pre : List ByteArray) (x : ByteArray) (A : World), I pre A → x ∈ xs → pre.length < xs.length → w.heap.size + 2 ≤ A.heap.size → body.wpIn (Fence.wide.inRound l) 0 P (fun e _ W' => e = .normal ∧ I (pre ++ [x]) W' ∧ keep A W' ∧ W'.heap[w.heap.size + 1]? = A.heap[w.heap.size + 1]? ∧ W'.heap[w.heap.size]? = A.heap[w.heap.size]?) (a₁ x) A)
  (hdone : ∀ (W : World), I xs W → W.heap[w.heap.size]? = some (.deferred (some [])) → Q .normal { a with defers := { target := .collected w.heap.size, args := #[] } :: a.defers } W) :
  (Code.rangeFunc g #[p] assign body).wpIn Fence.wide n P Q a w := by
 refine wpIn_rangeFunc ?_
 intro fn hfn
 obtain ⟨rec, hrec⟩ : ∃ rec : LoopState → Option Code → Loop, rec = fun st pe => { state := st, pending := pe, fn, tmps := a.tmps, params := #[p], assign, body, defers := w.heap.size } := ⟨_, rfl⟩
 obtain ⟨W1, hW1⟩ : ∃ W1, (w.alloc (.deferred (some []))).alloc (.loop (rec .ready none)) = W1 := ⟨_, rfl⟩
 have hL1 : W1.heap[w.heap.size + 1]? = some (.loop (rec .ready none)) := by
  rw [← hW1]; have := World.alloc_heap_new (w.alloc (.deferred (some []))) (.loop (rec .ready none)); rwa [World.size_alloc] at this
 have hK1 : W1.heap[w.heap.size]? = some (.deferred (some [])) := by
  rw [← hW1]; exact (Below.heap_alloc _ _ _ (by simp)).trans (World.alloc_heap_new w _)
 have hlow : ∀ k, k < w.heap.size → W1.heap[k]? = w.heap[k]? := by
  intro k hk
  rw [← hW1, Below.heap_alloc _ _ _ (by simp; omega), Below.heap_alloc _ _ _ hk]
 refine ⟨w.heap.size + 1, [{ target := .collected w.heap.size, args := #[] }], W1, { target := .fn (.func gf) lb, args := #[.func (.yield (w.heap.size + 1)) #[] #[]] }, W1, gf,
  #[.func (.yield (w.heap.size + 1)) #[] #[]] ++ lb, W1, ?_, ?_, fun _ _ => trivial, ?_, fun h => by simp [Fence.wide] at h, ?_⟩
 ·rw [← hW1, hrec]; exact run_enterLoop_outer _ _ _ _ _
 ·simp only [resolve, hg]
  simp [go_sem]
 ·simp [invoke, go_sem, eg]
 ·refine (hseq (fun pre W => I pre W ∧ W.heap[w.heap.size + 1]? = some (.loop (rec .ready none)) ∧ W.heap[w.heap.size]? = some (.deferred (some []))) W1
   (fun pre A v hh => ⟨hIset pre A v hh.1, (Below.heap_setCell A _ v _ (by show w.heap.size + 1 ≠ bs; omega)).trans hh.2.1, (Below.heap_setCell A _ v _ (by show w.heap.size ≠ bs; omega)).trans hh.2.2⟩)
   ?_ hlow ⟨by rw [← hW1]; exact h0 _, hL1, hK1⟩).mono ?_
  ·rintro pre x W ⟨hi, hl, hk⟩ hx hxl
   have hlt : w.heap.size + 1 < W.heap.size := (Array.getElem?_eq_some_iff.1 hl).1
   have hy := run_yield (P := P) (args := #[.string x]) hl (by rw [hrec]; rfl)
   rw [hrec] at hy
   refine ⟨fn, _, assign, body, hy, roundIn_of_wpIn hfn ?_⟩
   refine hassign _ x W _ ⟨_, run_beginRound hl (by rw [hrec]), ?_⟩
   have hl2 : (W.putObj (w.heap.size + 1) (.loop { rec .ready none with state := .busy })).heap[w.heap.size + 1]? = some (.loop { rec .ready none with state := .busy }) := World.putObj_heap_same hlt
   have hk2 : (W.putObj (w.heap.size + 1) (.loop { rec .ready none with state := .busy })).heap[w.heap.size]? = some (.deferred (some [])) := (World.putObj_heap_other (by omega)).trans hk
   refine wpIn_mono (hbody _ pre x _ (hIput _ _ _ hi) hx hxl (by rw [World.putObj_size]; omega)) ?_
   rintro e a3 W3 ⟨rfl, hi3, hkp3, hl3, hk3⟩
   have hl4 := hl3.trans hl2
   have hr := run_endRound (P := P) none hl4
   refine ⟨_, _, hr, rfl, ⟨hIput _ _ _ hi3, ?_, (World.putObj_heap_other (by omega)).trans (hk3.trans hk2)⟩, hkt (hkt (hkput W _) hkp3) (hkput W3 _)⟩
   rw [World.putObj_heap_same (Array.getElem?_eq_some_iff.1 hl4).1, hrec]
   rfl
  ·rintro e W2 ⟨⟨v, rfl⟩, hi, hl, hk⟩
   exact ⟨none, _, by have := run_endLoop (P := P) hl (by rw [hrec]; simp); rw [hrec] at this; exact this, hdone _ (hIput _ _ _ hi) ((World.putObj_heap_other (by omega)).trans hk)⟩
end Go.Proofs.YtdbadfcekomomaaDoor.M
end
section
namespace Go.Proofs.YtdbadfcekomomaaDoor.M
open Go.RowKit Go.Shelf Go.Proofs.YtdbadfcekomomaaDoorW.PrintWords Go.Proofs.YtdbadfcekomomaaDoorW.PrintLast
set_option linter.unusedVariables false
set_option linter.unusedSimpArgs false
attribute [local go_sem] Oper.semAt_some
def isPart (p : ByteArray) : Bool := decide (1 ≤ p.size) && decide (p.size ≤ 7) && p.data.toList.all isHexU
def glyph_values.f (a0 : ByteArray) : Option (List Int) := if a0.size ≤ 1000000 ∧ (partsOf 44 a0.data.toList).all isPart = true then some ((partsOf 44 a0.data.toList).map fun p => (hexNum p.data.toList : Int)) else none
theorem SplitSeq_calls (s : ByteArray) (c : UInt8) (W : World) :
  Calls Tryd.prog 34 #[.string s, .string ⟨#[c]⟩] W fun e W' => e = .returned (.func (.func 63) #[] #[.pointer (some ⟨W.heap.size + 1, 0, none⟩), .pointer (some ⟨W.heap.size, 0, none⟩), .pointer (some ⟨W.heap.size + 2, 0, none⟩)]) ∧
   W' = ((W.alloc (.cells #[.string s] 9)).alloc (.cells #[.string ⟨#[c]⟩] 9)).alloc (.cells #[.int .i64 0] 3) := by
 have h80 : Calls Tryd.prog 49 #[.string s, .string ⟨#[c]⟩, .int .i64 0] W fun e W' => e = .returned (.func (.func 63) #[] #[.pointer (some ⟨W.heap.size + 1, 0, none⟩), .pointer (some ⟨W.heap.size, 0, none⟩), .pointer (some ⟨W.heap.size + 2, 0, none⟩)]) ∧
   W' = ((W.alloc (.cells #[.string s] 9)).alloc (.cells #[.string ⟨#[c]⟩] 9)).alloc (.cells #[.int .i64 0] 3) := by
  go_enter Tryd.func49, Tryd.ntmps49
  go_wp2
  go_ret
  exact ⟨rfl, rfl⟩
 have H80 := Aside0.mk h80
 clear h80
 go_enter Tryd.func34, Tryd.ntmps34
 go_wp2_with fail
 refine H80.out.mono ?_
 rintro e W' ⟨rfl, hW⟩
 rw [hW]
 clear hW
 go_wp2
 go_ret
 exact ⟨rfl, rfl⟩
theorem splitB_len (c : UInt8) : ∀ (s w : List UInt8), (splitB c s w).length ≤ s.length + 1
 | [], w => by simp [splitB]
 | x :: r, w => by
  have h1 := splitB_len c r []
  have h2 := splitB_len c r (w ++ [x])
  simp only [splitB, List.length_cons]
  split
  ·simp only [List.length_cons]; omega
  ·omega
theorem partsOf_length (c : UInt8) (s : ByteArray) (h : s.size ≤ 1000000) : (partsOf c s.data.toList).length ≤ 1000001 := by
 unfold partsOf
 rw [List.length_map]
 have := splitB_len c s.data.toList []
 have e : s.data.toList.length = s.size := rfl
 omega
set_option maxRecDepth 100000 in
set_option maxHeartbeats 1000000 in
theorem glyph_values.calls (a0 : ByteArray) (r : List Int) (w : World) (h : glyph_values.f a0 = some r) :
  Calls Tryd.prog 20 #[.string a0] w fun e w' => ∃ v0_ : Value, e = .returned (v0_) ∧ Kd.R (Kd.int .i64) 3 w' w.heap.size (fun _ => True) v0_ r ∧ Below w.heap.size w w' := by
 unfold glyph_values.f at h
 split at h
 case isFalse => cases h
 rename_i hb
 obtain ⟨hb1, hb2⟩ := hb
 replace h := Option.some.inj h
 have HR := Aside0.mk h
 have HB2 := Aside0.mk hb2
 clear h hb2
 have HSP := Aside0.mk (fun W => callsIn_wide (n := 2).2 (SplitSeq_calls a0 44 W))
 refine (callsIn_wide (n := 3)).1 ?_
 refine callsIn_of_wp_marks Tryd.func20 rfl trivial ?_ rfl
 simp only [Tryd.ntmps20, List.size_toArray, List.length_cons, List.length_nil, Nat.reduceAdd, Nat.reduceSub, Array.replicate_succ, Array.replicate_zero, List.push_toArray, List.append_toArray, List.nil_append, List.cons_append]
 gi_wp2_with fail
 refine ⟨trivial, ?_⟩
 refine (HSP.out _).mono ?_
 rintro e W1 ⟨rfl, hw⟩
 rw [hw]
 clear hw HSP
 gi_wp2_with fail
 obtain ⟨w4, hw4⟩ : ∃ w4, ((((w.alloc (Obj.cells #[Value.slice none 0 0] 23)).alloc (Obj.cells #[Value.string a0] 9)).alloc (Obj.cells #[Value.string ⟨#[44]⟩] 9)).alloc (Obj.cells #[Value.int IntKind.i64 0] 3)) = w4 := ⟨_, rfl⟩
 have hs4 : w4.heap.size = w.heap.size + 4 := by rw [← hw4]; simp
 have hb4 : Below w.heap.size w w4 := by rw [← hw4]; exact below_alloc (below_alloc (below_alloc (below_alloc (Below.refl _ w) _) _) _) _
 have g0 : w4.heap[w.heap.size]? = some (.cells #[.slice none 0 0] 23 (0, 0)) := by
  rw [← hw4, Below.heap_alloc _ _ _ (by simp only [World.size_alloc]; omega), Below.heap_alloc _ _ _ (by simp only [World.size_alloc]; omega), Below.heap_alloc _ _ _ (by simp only [World.size_alloc]; omega)]; exact World.alloc_heap_new w _
 have g1 : w4.heap[w.heap.size + 1]? = some (.cells #[.string a0] 9 (0, 0)) := by
  rw [← hw4, Below.heap_alloc _ _ _ (by simp only [World.size_alloc]; omega), Below.heap_alloc _ _ _ (by simp only [World.size_alloc]; omega)]
  have := World.alloc_heap_new (w.alloc (Obj.cells #[Value.slice none 0 0] 23)) (Obj.cells #[Value.string a0] 9)
  rwa [World.size_alloc] at this
 have g2 : w4.heap[w.heap.size + 2]? = some (.cells #[.string ⟨#[44]⟩] 9 (0, 0)) := by
  rw [← hw4, Below.heap_alloc _ _ _ (by simp only [World.size_alloc]; omega)]
  have := World.alloc_heap_new ((w.alloc (Obj.cells #[Value.slice none 0 0] 23)).alloc (Obj.cells #[Value.string a0] 9)) (Obj.cells #[Value.string ⟨#[44]⟩] 9)
  rwa [World.size_alloc, World.size_alloc] at this
 have g3 : w4.heap[w.heap.size + 3]? = some (.cells #[.int .i64 0] 3 (0, 0)) := by
  rw [← hw4]
  have := World.alloc_heap_new (((w.alloc (Obj.cells #[Value.slice none 0 0] 23)).alloc (Obj.cells #[Value.string a0] 9)).alloc (Obj.cells #[Value.string ⟨#[44]⟩] 9)) (Obj.cells #[Value.int IntKind.i64 0] 3)
  rwa [World.size_alloc, World.size_alloc, World.size_alloc] at this
 rw [hw4]
 have HG0 := Aside0.mk g0
 have HG1 := Aside0.mk g1
 have HG2 := Aside0.mk g2
 have HG3 := Aside0.mk g3
 have HB4 := Aside0.mk hb4
 clear g0 g1 g2 g3 hb4 hw4
 have hinfo : (Tryd.prog.info? 3).map (fun i => (i.zero, i.size, i.bytes)) = some (some (.int .i64 0), 1, 8) := by kernel_rfl
 obtain ⟨i0, hi, hz0, hz1, hz2⟩ := info_parts hinfo
 clear hinfo
 have hpl : (partsOf 44 a0.data.toList).length ≤ 1000001 := partsOf_length 44 a0 hb1
 refine wpIn_range_own (gf := 63) (lb := #[.pointer (some ⟨w.heap.size + 1 + 1, 0, none⟩), .pointer (some ⟨w.heap.size + 1, 0, none⟩), .pointer (some ⟨w.heap.size + 1 + 2, 0, none⟩)]) rfl (enters_of Tryd.func63 (by kernel_rfl) rfl)
  (partsOf 44 a0.data.toList) (w.heap.size + 1) (by omega) (fun A B => ∀ k, w.heap.size < k → k < w.heap.size + 4 → B.heap[k]? = A.heap[k]?) (fun h1 h2 k a b => (h2 k a b).trans (h1 k a b)) (fun A o k a b => World.putObj_heap_other (by omega))
  ?seq (fun pre W => pre.length ≤ 1000001 ∧ (∃ v, W.heap[w.heap.size]? = some (.cells #[v] 23 (0, 0)) ∧ W.ownsRow (w4.heap.size + 2) 3 1 v pre.length (pre.map fun x => Value.int .i64 (hexNum x.data.toList : Int))) ∧ Below w.heap.size w W)
  ?put ?set ?start
  (fun x => { tmps := #[.string a0, undef, .slice none 0 0, .pointer (some ⟨w.heap.size, 0, none⟩), .string x, undef, undef, .string a0, .func (.func 63) #[] #[.pointer (some ⟨w.heap.size + 1 + 1, 0, none⟩), .pointer (some ⟨w.heap.size + 1, 0, none⟩), .pointer (some ⟨w.heap.size + 1 + 2, 0, none⟩)], .string x, undef, undef, undef, undef, undef, undef, undef, undef, undef, undef], defers := [] })
  ?assign ?body ?done
 case seq =>
  intro J W hset hY hlow h0
  refine callsIn_wide.2 (callsIn_wide.1 (splitSeq_in (w4.heap.size + 1) (w.heap.size + 1) (w.heap.size + 1 + 1) (w.heap.size + 1 + 2) 44 a0 hb1 (by omega) (by omega) J hset ?_ W ?_ ?_ ?_ h0))
  ·intro pre x A hj hx hxl
   obtain ⟨fn, tmps, assign, body, hy, hR⟩ := hY pre x A hj hx hxl
   exact ⟨fn, tmps, assign, body, hy, hR.mono (fun e W' h => ⟨h.1, h.2.1, h.2.2 _ (by omega) (by omega), h.2.2 _ (by omega) (by omega), h.2.2 _ (by omega) (by omega)⟩)⟩
  ·exact (hlow _ (by omega)).trans HG1.out
  ·exact (hlow _ (by omega)).trans HG2.out
  ·exact (hlow _ (by omega)).trans HG3.out
 case put =>
  rintro pre A o ⟨h1, ⟨v, h2, h3⟩, h4⟩
  refine ⟨h1, ⟨v, (World.putObj_heap_other (by omega)).trans h2, own_move h3 (fun k hk => World.putObj_heap_other (by have := own_base h3 k hk; omega))⟩, ?_⟩
  exact h4.grown (grownBy_putObj' A _ o) h4.size (fun k e => by cases e; omega)
 case set =>
  rintro pre A u ⟨h1, ⟨v, h2, h3⟩, h4⟩
  exact ⟨h1, ⟨v, (Below.heap_setCell A _ u _ (by show w.heap.size ≠ w.heap.size + 1; omega)).trans h2, ownsRow_setCell_below h3 (by show w.heap.size + 1 < w4.heap.size + 2; omega) u⟩, h4.setCell (by show w.heap.size ≤ w.heap.size + 1; omega) u⟩
 case start =>
  intro o
  refine ⟨by simp, ⟨.slice none 0 0, ?_, World.ownsRow_nil _ _ _ _⟩, below_alloc (below_alloc HB4.out _) _⟩
  rw [Below.heap_alloc _ _ _ (by simp; omega), Below.heap_alloc _ _ _ (by omega)]
  exact HG0.out
 case assign =>
  intro l x W K hK
  gi_wp2
  exact hK
 case body =>
  rintro l pre x A ⟨h1, ⟨v, h2, h3⟩, h4⟩ hx hxl hsz
  have hpre : pre.length + 1 ≤ 1000001 := by omega
  have hc : A.cell? ⟨w.heap.size, 0, none⟩ = some v := by simp [World.cell?, h2]
  have hp := List.all_eq_true.1 HB2.out x hx
  simp only [isPart, Bool.and_eq_true, decide_eq_true_eq] at hp
  have HPI := Aside0.mk (fun n W => CallsIn.inRound l (callsIn_wide (n := n).2 (ParseInt_hex x hp.1.1 hp.1.2 hp.2 W)))
  obtain ⟨z, hz⟩ : ∃ z : Int, z = (hexNum x.data.toList : Int) := ⟨_, rfl⟩
  rw [← hz] at HPI
  have HZ := Aside0.mk hz
  have H2 := Aside0.mk h2
  have H3 := Aside0.mk h3
  have H4 := Aside0.mk h4
  clear hz hp h2 h3 h4
  gi_wp2_with fail
  refine ⟨trivial, rfl, ?_⟩
  refine (HPI.out _ _).mono ?_
  rintro e W2 ⟨rfl, hb⟩
  have hs2 : w4.heap.size + 2 ≤ W2.heap.size := Nat.le_trans hsz hb.size
  have hrow : W2.ownsRow (w4.heap.size + 2) 3 1 v pre.length (pre.map fun x => Value.int .i64 (hexNum x.data.toList : Int)) := own_move H3.out (fun k hk => hb.block k (own_lt H3.out k hk))
  have HK : Aside0 (∀ k, k < w4.heap.size + 2 → W2.heap[k]? = A.heap[k]?) := ⟨fun k hk => hb.block k (by omega)⟩
  have HBW : Aside0 (Below w.heap.size w W2) := ⟨below_step H4.out hb⟩
  have HV2 : Aside0 (W2.heap[w.heap.size]? = some (.cells #[v] 23 (0, 0))) := ⟨(HK.out _ (by omega)).trans H2.out⟩
  have hc2 : W2.cell? ⟨w.heap.size, 0, none⟩ = some v := by simp [World.cell?, HV2.out]
  clear hc hb H2 H3 H4 HPI
  have HROW := Aside0.mk hrow
  clear hrow
  gi_wp2_with (gi_at_builtin; refine wpListIn_append_own _ rfl _ _ 23 rfl (w4.heap.size + 2) 3 i0 (.int .i64 0) 1 8 Tryd.underlying23 hi hz0 hz1 hz2 rfl (by decide) v pre.length _ ?c1 (HROW.out.alloc _) ⟨W2.heap.size, 0, none⟩ 1 1 [.int .i64 z] ?c2 rfl (cell_one_new _ _ _) (by simp [Value.oneCell']) (by unfold maxLen; omega) (by omega) (by simp; omega) ?_)
  case c1 => rfl
  case c2 => rfl
  intro v' w1 hown' hgrow _
  obtain ⟨g', cap', rfl⟩ := ownsRow_succ hown'
  have HOWN := Aside0.mk hown'
  have HKEEP : Aside0 (∀ k, k < w4.heap.size + 2 → w1.heap[k]? = W2.heap[k]?) := ⟨fun k hk => (hgrow.block k (by simp; omega) (fun e => by have := own_base HROW.out k e.symm; omega)).trans (Below.heap_alloc _ _ _ (by omega))⟩
  have HBW1 : Aside0 (Below w.heap.size w w1) := ⟨(below_alloc HBW.out _).grown hgrow (by have := HBW.out.size; simp; omega) (fun k e => by have := own_base HROW.out k e; omega)⟩
  have HV1 : Aside0 (w1.heap[w.heap.size]? = some (.cells #[v] 23 (0, 0))) := ⟨(HKEEP.out _ (by omega)).trans HV2.out⟩
  have hc1 : w1.cell? ⟨w.heap.size, 0, none⟩ = some v := by simp [World.cell?, HV1.out]
  have hf1 : w1.frozen? ⟨w.heap.size, 0, none⟩ = false := by simp [World.frozen?, HV1.out]
  clear hown' hgrow hc2
  gi_wp2
  have hoth := fun k (hk : k ≠ w.heap.size) => Below.heap_setCell w1 ⟨w.heap.size, 0, none⟩ (.slice (some ⟨g', 0, none⟩) (pre.length + 1) cap') k hk
  refine ⟨⟨⟨_, one_setCell HV1.out, ?_⟩, HBW1.out.setCell (Nat.le_refl _) _⟩, fun k a b => ?_, ?_, ?_⟩
  ·have := ownsRow_setCell_below HOWN.out (a := ⟨w.heap.size, 0, none⟩) (by show w.heap.size < w.heap.size + 4 + 2; omega) (.slice (some ⟨g', 0, none⟩) (pre.length + 1) cap')
   rw [HZ.out] at this
   exact this
  ·rw [hoth k (by omega), HKEEP.out k (by omega), HK.out k (by omega)]
  ·rw [hoth _ (by omega), HKEEP.out _ (by omega), HK.out _ (by omega)]
  ·rw [hoth _ (by omega), HKEEP.out _ (by omega), HK.out _ (by omega)]
 case done =>
  rintro W ⟨h1, ⟨v, h2, h3⟩, h4⟩ hK
  have hc : W.cell? ⟨w.heap.size, 0, none⟩ = some v := by simp [World.cell?, h2]
  gi_wp2
  refine ⟨by simp, .inl ⟨_, _, rfl, run_takeDeferred hK, ?_⟩⟩
  refine ⟨_, results_tmp rfl _ _ _, v, rfl, ?_, h4.grown (grownBy_putObj' W _ _) h4.size (fun k e => by cases e; omega)⟩
  refine Kd.R_of_own ?_ (fun _ _ => trivial)
  rw [← HR.out, List.length_map]
  have := own_weaken (base' := w.heap.size) (own_move (w1 := W.putObj w4.heap.size (.deferred none)) h3 (fun k hk => World.putObj_heap_other (by have := own_base h3 k hk; omega))) (by omega)
  unfold encs
  rw [List.map_map]
  exact this
end Go.Proofs.YtdbadfcekomomaaDoor.M
end
section
/- Laid by this session's program hbprint.py out of the translation: the function hornbook/glyph.Uni and its contract. -/
namespace Go.Proofs.YtdbadfcekomomaaDoor.M
open Go.RowKit Go.Proofs.YtdbadfcekomomaaDoorW.PrintWords Go.Proofs.YtdbadfcekomomaaDoorW.PrintLast Go.Proofs.YtdbadfcekomomaaDoorW.PrintMore
attribute [local go_sem] max2_int min2_int max_two min_two max_three min_three max_four min_four
set_option linter.unusedVariables false
set_option linter.unusedSimpArgs false
def glyph_Uni.j0 : Nat → ByteArray → Bool → Option (List Int × Bool)
 | 0, _, _ => none
 | k + 1, x0, x15 => if x15 = true then (some (([] : List Int), false)) else ((glyph_list.f k).bind fun t129 => (if 1 + x0.size ≤ 9223372036854775807 then (if ((⟨#[32]⟩ : ByteArray) ++ x0).size + 1 ≤ 9223372036854775807 then ((strings_Cut.f t129 (((⟨#[32]⟩ : ByteArray) ++ x0) ++ (⟨#[61]⟩ : ByteArray))).bind fun bt130 => (if bt130.2.2 = true then ((strings_Cut.f bt130.2.1 (⟨#[32]⟩ : ByteArray)).bind fun bt133 => ((glyph_values.f bt133.1).bind fun t136 => (some (t136, true)))) else (some (([] : List Int), false)))) else (none)) else (none)))
def glyph_Uni.f (k : Nat) (a0 : ByteArray) : Option (List Int × Bool) := if a0.toList = ([] : List UInt8) then (glyph_Uni.j0 k a0 true) else ((strings_ContainsAny.f a0 (⟨#[32, 61]⟩ : ByteArray)).bind fun t128 => (glyph_Uni.j0 k a0 t128))
theorem glyph_Uni.mono_l : ∀ k, (∀ y0 y1, LeO (glyph_Uni.j0 k y0 y1) (glyph_Uni.j0 (k + 1) y0 y1))
 | 0 => fun _ _ r h => by simp [glyph_Uni.j0] at h
 | k + 1 => by
  have ih0 := glyph_Uni.mono_l k
  ·intro y0 y1
   unfold glyph_Uni.j0
   repeat' first
   | (with_reducible exact ih0 _ _)
   | (with_reducible exact glyph_list.mono _)
   | (with_reducible exact LeO.refl _)
   | (with_reducible exact LeO.none _)
   | (with_reducible refine LeO.ite ?_ ?_)
   | (with_reducible refine LeO.bind ?_ (fun _ => ?_))
   | exact ih0 _ _
   | exact glyph_list.mono _
   | exact LeO.none _
   | refine LeO.ite ?_ ?_
   | refine LeO.bind ?_ (fun _ => ?_)
theorem glyph_Uni.mono : ∀ a0 k, LeO (glyph_Uni.f k a0) (glyph_Uni.f (k + 1) a0) := by
 intro a0 k
 have ih0 := glyph_Uni.mono_l k
 unfold glyph_Uni.f
 repeat' first
   | (with_reducible exact ih0 _ _)
   | (with_reducible exact glyph_list.mono _)
   | (with_reducible exact LeO.refl _)
   | (with_reducible exact LeO.none _)
   | (with_reducible refine LeO.ite ?_ ?_)
   | (with_reducible refine LeO.bind ?_ (fun _ => ?_))
   | exact ih0 _ _
   | exact glyph_list.mono _
   | exact LeO.none _
   | refine LeO.ite ?_ ?_
   | refine LeO.bind ?_ (fun _ => ?_)
set_option maxHeartbeats 8000000 in
set_option maxRecDepth 100000 in
theorem glyph_Uni.calls (k : Nat) (a0 : ByteArray) (r1 : List Int) (r2 : Bool) (w : World) (hG : GW w) (h : glyph_Uni.f k a0 = some (r1, r2)) :
  Calls Tryd.prog 7 #[.string a0] w fun e w' => ∃ v0_ : Value, e = .returned (.tuple #[v0_, .bool r2]) ∧ Kd.R (Kd.int .i64) 3 w' w.heap.size (fun _ => True) v0_ r1 ∧ Below w.heap.size w w' := by
 have HG := Aside0.mk hG
 clear hG
 have HB := Aside0.mk (Below.refl w.heap.size w)
 have H : (if a0.toList = ([] : List UInt8) then (glyph_Uni.j0 k a0 true) else ((strings_ContainsAny.f a0 (⟨#[32, 61]⟩ : ByteArray)).bind fun t128 => (glyph_Uni.j0 k a0 t128))) = some (r1, r2) := h
 clear h
 have HC2 := Aside0.mk H
 clear H
 go_enter Tryd.func7, Tryd.ntmps7
 go_upto_region 1 with (fail)
 go_cut [15] (fun v15 wc => ∃ (kq : Nat) (x15_1 : Bool), v15 = .bool x15_1 ∧ Aside0 (glyph_Uni.j0 kq a0 x15_1 = some (r1, r2)) ∧ Aside0 (kq ≤ k) ∧ Aside0 (Below w.heap.size w wc))
 case first =>
  have H := HC2.out
  clear HC2
  by_cases c3 : a0.toList = ([] : List UInt8)
  ·rw [if_pos c3] at H
   have c3b0 : (a0.toList == ([] : List UInt8)) = true := beq_iff_eq.mpr c3
   have c3b1 : (a0.toList != ([] : List UInt8)) = false := bne_eq_false_iff_eq.mpr c3
   clear c3
   (first | rw [c3b0] | (simp only [i64_w, i32_w]; rw [c3b0]) | skip)
   have H' := Aside0.mk H
   clear H
   go_wp2
   go_meet
   case rel => exact ⟨_, (true), (by first | rfl | (simp; done) | (simp [*]; done)), H', ⟨by first | omega | exact Nat.le_refl _⟩, ⟨by repeat (first | (with_reducible first | exact HB.out | apply below_alloc | apply pw_below_drewN | apply below_drew1) | exact HB.out)⟩⟩
  ·rw [if_neg c3] at H
   have c3b0 : (a0.toList == ([] : List UInt8)) = false := beq_eq_false_iff_ne.mpr c3
   have c3b1 : (a0.toList != ([] : List UInt8)) = true := bne_iff_ne.mpr c3
   (first | rw [c3b0] | (simp only [i64_w, i32_w]; rw [c3b0]) | skip)
   replace H := Option.bind_eq_some_iff.mp H
   obtain ⟨t128, A40, H⟩ := H
   replace H : (glyph_Uni.j0 k a0 t128) = some (r1, r2) := H
   have A4 := Aside0.mk A40
   clear A40
   have H' := Aside0.mk H
   clear H
   go_wp2_with (first | (go_at_call 17; (with_reducible refine (strings_ContainsAny.calls a0 (⟨#[32, 61]⟩ : ByteArray) t128 _ A4.out).mono ?_); rintro e w5 ⟨rfl, hb⟩; have n0_ := Aside0.mk (below_step (by repeat (first | (with_reducible first | exact HB.out | apply below_alloc | apply pw_below_drewN | apply below_drew1) | exact HB.out)) hb); clear HB; have HB := n0_; clear n0_; (try clear hb); (try clear hb2); (try clear hk); (try clear hi)))
   go_meet
   case rel => exact ⟨_, (t128), (by first | rfl | (simp; done) | (simp [*]; done)), H', ⟨by first | omega | exact Nat.le_refl _⟩, ⟨by repeat (first | (with_reducible first | exact HB.out | apply below_alloc | apply pw_below_drewN | apply below_drew1) | exact HB.out)⟩⟩
 case rest =>
  clear HC2
  try clear p2
  try clear c3
  try clear c3b0
  try clear c3b1
  obtain ⟨kq, x15_1, rfl, HA, HJ1, HB⟩ := hcut
  cases kq with
  | zero => exact absurd HA.out (by simp [glyph_Uni.j0])
  | succ kj1 =>
   have H := HA.out
   clear HA
   simp only [glyph_Uni.j0] at H
   by_cases c6 : x15_1 = true
   ·subst c6
    have H1 : (some (([] : List Int), false)) = some (r1, r2) := by rw [if_pos rfl] at H; exact H
    clear H
    have H := H1
    clear H1
    simp only [Option.some.injEq, Prod.mk.injEq] at H
    obtain ⟨rfl, rfl⟩ := H
    go_wp2
    go_ret2
    exact ⟨_, by first | rfl | (simp [errW_none, errW_some] <;> rfl) | (simp [*, errW_none, errW_some] <;> rfl), by first | exact Kd.R_nil _ _ _ _ _ | exact Kd.N_nil _ _ _ _ _ | exact Kd.V_nil _ _ _ _ _ | exact Kd.Q_nil _ _ _ _ _ | exact Kd.S_nil _ _ _ _ _, by repeat (first | (with_reducible first | exact HB.out | apply below_alloc | apply pw_below_drewN | apply below_drew1) | exact HB.out)⟩
   ·replace c6 := Bool.eq_false_iff.mpr c6
    subst c6
    have H1 : ((glyph_list.f kj1).bind fun t129 => (if 1 + a0.size ≤ 9223372036854775807 then (if ((⟨#[32]⟩ : ByteArray) ++ a0).size + 1 ≤ 9223372036854775807 then ((strings_Cut.f t129 (((⟨#[32]⟩ : ByteArray) ++ a0) ++ (⟨#[61]⟩ : ByteArray))).bind fun bt130 => (if bt130.2.2 = true then ((strings_Cut.f bt130.2.1 (⟨#[32]⟩ : ByteArray)).bind fun bt133 => ((glyph_values.f bt133.1).bind fun t136 => (some (t136, true)))) else (some (([] : List Int), false)))) else (none)) else (none))) = some (r1, r2) := by rw [if_neg (show ¬ (false = true) by decide)] at H; exact H
    clear H
    have H := H1
    clear H1
    replace H := Option.bind_eq_some_iff.mp H
    obtain ⟨t129, A70, H⟩ := H
    replace H : (if 1 + a0.size ≤ 9223372036854775807 then (if ((⟨#[32]⟩ : ByteArray) ++ a0).size + 1 ≤ 9223372036854775807 then ((strings_Cut.f t129 (((⟨#[32]⟩ : ByteArray) ++ a0) ++ (⟨#[61]⟩ : ByteArray))).bind fun bt130 => (if bt130.2.2 = true then ((strings_Cut.f bt130.2.1 (⟨#[32]⟩ : ByteArray)).bind fun bt133 => ((glyph_values.f bt133.1).bind fun t136 => (some (t136, true)))) else (some (([] : List Int), false)))) else (none)) else (none)) = some (r1, r2) := H
    have A7 := Aside0.mk A70
    clear A70
    by_cases c8 : 1 + a0.size ≤ 9223372036854775807
    ·rw [if_pos c8] at H
     have c8b0 := eq_true c8
     have c8b1 : decide (1 + a0.size ≤ 9223372036854775807) = true := decide_eq_true c8
     try have c8b2 : (9223372036854775807 < 1 + a0.size) = False := eq_false (Nat.not_lt.2 c8)
     by_cases c9 : ((⟨#[32]⟩ : ByteArray) ++ a0).size + 1 ≤ 9223372036854775807
     ·rw [if_pos c9] at H
      have c9b0 := eq_true c9
      have c9b1 : decide (((⟨#[32]⟩ : ByteArray) ++ a0).size + 1 ≤ 9223372036854775807) = true := decide_eq_true c9
      try have c9b2 : (9223372036854775807 < ((⟨#[32]⟩ : ByteArray) ++ a0).size + 1) = False := eq_false (Nat.not_lt.2 c9)
      try have c9b9 : (9223372036854775807 < (1 + a0.size) + 1) = False := eq_false (Nat.not_lt.2 (by have h_ := c9; (repeat rw [ByteArray.size_append] at h_); exact h_))
      replace H := Option.bind_eq_some_iff.mp H
      obtain ⟨⟨t130, t131, t132⟩, A100, H⟩ := H
      replace H : (if t132 = true then ((strings_Cut.f t131 (⟨#[32]⟩ : ByteArray)).bind fun bt133 => ((glyph_values.f bt133.1).bind fun t136 => (some (t136, true)))) else (some (([] : List Int), false))) = some (r1, r2) := H
      have A10 := Aside0.mk A100
      clear A100
      by_cases c11 : t132 = true
      ·subst c11
       have H1 : ((strings_Cut.f t131 (⟨#[32]⟩ : ByteArray)).bind fun bt133 => ((glyph_values.f bt133.1).bind fun t136 => (some (t136, true)))) = some (r1, r2) := by rw [if_pos rfl] at H; exact H
       clear H
       have H := H1
       clear H1
       replace H := Option.bind_eq_some_iff.mp H
       obtain ⟨⟨t133, t134, t135⟩, A120, H⟩ := H
       replace H : ((glyph_values.f t133).bind fun t136 => (some (t136, true))) = some (r1, r2) := H
       have A12 := Aside0.mk A120
       clear A120
       replace H := Option.bind_eq_some_iff.mp H
       obtain ⟨t136, A130, H⟩ := H
       replace H : (some (t136, true)) = some (r1, r2) := H
       have A13 := Aside0.mk A130
       clear A130
       simp only [Option.some.injEq, Prod.mk.injEq] at H
       obtain ⟨rfl, rfl⟩ := H
       go_wp2_with (first | ((with_reducible refine gate_callee (f := 19) rfl ?_); refine goesL_ (some 17) rfl rfl Tryd.func19 (by kernel_rfl) rfl #[] rfl (by (try simp only [List.map_toArray, List.map_cons, List.map_nil]); first | done | rfl | (simp only [List.length_drop, List.length_take]; rfl)) ?_; (with_reducible refine (glyph_list.calls kj1  t129 _ A7.out).mono ?_); rintro e w14 ⟨rfl, hb⟩; refine ⟨_, rfl, ?_⟩; have n0_ := Aside0.mk (below_step (by repeat (first | (with_reducible first | exact HB.out | apply below_alloc | apply pw_below_drewN | apply below_drew1) | exact HB.out)) hb); clear HB; have HB := n0_; clear n0_; (try clear hb); (try clear hb2); (try clear hk); (try clear hi)) | ((with_reducible refine gate_callee (f := 18) rfl ?_); refine goesL_ (some 21) rfl rfl Tryd.func18 (by kernel_rfl) rfl #[.string t129, .string (((⟨#[32]⟩ : ByteArray) ++ a0) ++ (⟨#[61]⟩ : ByteArray))] rfl (by (try simp only [List.map_toArray, List.map_cons, List.map_nil]); first | done | rfl | (simp only [List.length_drop, List.length_take]; rfl)) ?_; (with_reducible refine (strings_Cut.calls t129 (((⟨#[32]⟩ : ByteArray) ++ a0) ++ (⟨#[61]⟩ : ByteArray)) t130 t131 true _ ?side1 A10.out).mono ?_); (case side1 => exact GW.below (by repeat (first | (with_reducible first | exact HB.out | apply below_alloc | apply pw_below_drewN | apply below_drew1) | exact HB.out)) HG.out); rintro e w15 ⟨rfl, hb⟩; refine ⟨_, rfl, ?_⟩; have n0_ := Aside0.mk (below_step (by repeat (first | (with_reducible first | exact HB.out | apply below_alloc | apply pw_below_drewN | apply below_drew1) | exact HB.out)) hb); clear HB; have HB := n0_; clear n0_; (try clear hb); (try clear hb2); (try clear hk); (try clear hi)) | ((with_reducible refine gate_callee (f := 18) rfl ?_); refine goesL_ (some 29) rfl rfl Tryd.func18 (by kernel_rfl) rfl #[.string t131, .string (⟨#[32]⟩ : ByteArray)] rfl (by (try simp only [List.map_toArray, List.map_cons, List.map_nil]); first | done | rfl | (simp only [List.length_drop, List.length_take]; rfl)) ?_; (with_reducible refine (strings_Cut.calls t131 (⟨#[32]⟩ : ByteArray) t133 t134 t135 _ ?side1 A12.out).mono ?_); (case side1 => exact GW.below (by repeat (first | (with_reducible first | exact HB.out | apply below_alloc | apply pw_below_drewN | apply below_drew1) | exact HB.out)) HG.out); rintro e w16 ⟨rfl, hb⟩; refine ⟨_, rfl, ?_⟩; have n0_ := Aside0.mk (below_step (by repeat (first | (with_reducible first | exact HB.out | apply below_alloc | apply pw_below_drewN | apply below_drew1) | exact HB.out)) hb); clear HB; have HB := n0_; clear n0_; (try clear hb); (try clear hb2); (try clear hk); (try clear hi)) | ((with_reducible refine gate_callee (f := 20) rfl ?_); refine goesL_ (some 34) rfl rfl Tryd.func20 (by kernel_rfl) rfl #[.string t133] rfl (by (try simp only [List.map_toArray, List.map_cons, List.map_nil]); first | done | rfl | (simp only [List.length_drop, List.length_take]; rfl)) ?_; (with_reducible refine (glyph_values.calls t133 t136 _ A13.out).mono ?_); rintro e w17 ⟨v137, rfl, ho0, hb⟩; refine ⟨_, rfl, ?_⟩; have n0_ := Aside0.mk (Kd.R_lower ho0 (below_size (by repeat (first | (with_reducible first | exact HB.out | apply below_alloc | apply pw_below_drewN | apply below_drew1) | exact HB.out)))); have n1_ := Aside0.mk (below_step (by repeat (first | (with_reducible first | exact HB.out | apply below_alloc | apply pw_below_drewN | apply below_drew1) | exact HB.out)) hb); clear HB; have HO138 := n0_; have HB := n1_; clear n0_ n1_; (try clear hb); (try clear hb2); (try clear hk); (try clear hi); (try clear ho0)))
       go_ret2
       exact ⟨_, by first | rfl | (simp [errW_none, errW_some] <;> rfl) | (simp [*, errW_none, errW_some] <;> rfl), by (with_reducible repeat (first | apply Kd.R_alloc | apply Kd.R_drewN | apply Kd.R_drew)); exact HO138.out, by repeat (first | (with_reducible first | exact HB.out | apply below_alloc | apply pw_below_drewN | apply below_drew1) | exact HB.out)⟩
      ·replace c11 := Bool.eq_false_iff.mpr c11
       subst c11
       have H1 : (some (([] : List Int), false)) = some (r1, r2) := by rw [if_neg (show ¬ (false = true) by decide)] at H; exact H
       clear H
       have H := H1
       clear H1
       simp only [Option.some.injEq, Prod.mk.injEq] at H
       obtain ⟨rfl, rfl⟩ := H
       go_wp2_with (first | ((with_reducible refine gate_callee (f := 19) rfl ?_); refine goesL_ (some 17) rfl rfl Tryd.func19 (by kernel_rfl) rfl #[] rfl (by (try simp only [List.map_toArray, List.map_cons, List.map_nil]); first | done | rfl | (simp only [List.length_drop, List.length_take]; rfl)) ?_; (with_reducible refine (glyph_list.calls kj1  t129 _ A7.out).mono ?_); rintro e w18 ⟨rfl, hb⟩; refine ⟨_, rfl, ?_⟩; have n0_ := Aside0.mk (below_step (by repeat (first | (with_reducible first | exact HB.out | apply below_alloc | apply pw_below_drewN | apply below_drew1) | exact HB.out)) hb); clear HB; have HB := n0_; clear n0_; (try clear hb); (try clear hb2); (try clear hk); (try clear hi)) | ((with_reducible refine gate_callee (f := 18) rfl ?_); refine goesL_ (some 21) rfl rfl Tryd.func18 (by kernel_rfl) rfl #[.string t129, .string (((⟨#[32]⟩ : ByteArray) ++ a0) ++ (⟨#[61]⟩ : ByteArray))] rfl (by (try simp only [List.map_toArray, List.map_cons, List.map_nil]); first | done | rfl | (simp only [List.length_drop, List.length_take]; rfl)) ?_; (with_reducible refine (strings_Cut.calls t129 (((⟨#[32]⟩ : ByteArray) ++ a0) ++ (⟨#[61]⟩ : ByteArray)) t130 t131 false _ ?side1 A10.out).mono ?_); (case side1 => exact GW.below (by repeat (first | (with_reducible first | exact HB.out | apply below_alloc | apply pw_below_drewN | apply below_drew1) | exact HB.out)) HG.out); rintro e w19 ⟨rfl, hb⟩; refine ⟨_, rfl, ?_⟩; have n0_ := Aside0.mk (below_step (by repeat (first | (with_reducible first | exact HB.out | apply below_alloc | apply pw_below_drewN | apply below_drew1) | exact HB.out)) hb); clear HB; have HB := n0_; clear n0_; (try clear hb); (try clear hb2); (try clear hk); (try clear hi)))
       go_ret2
       exact ⟨_, by first | rfl | (simp [errW_none, errW_some] <;> rfl) | (simp [*, errW_none, errW_some] <;> rfl), by first | exact Kd.R_nil _ _ _ _ _ | exact Kd.N_nil _ _ _ _ _ | exact Kd.V_nil _ _ _ _ _ | exact Kd.Q_nil _ _ _ _ _ | exact Kd.S_nil _ _ _ _ _, by repeat (first | (with_reducible first | exact HB.out | apply below_alloc | apply pw_below_drewN | apply below_drew1) | exact HB.out)⟩
     ·rw [if_neg c9] at H
      exact absurd H (by simp)
    ·rw [if_neg c8] at H
     exact absurd H (by simp)
end Go.Proofs.YtdbadfcekomomaaDoor.M
end
section
/- Laid by this session's program hbprint.py out of the translation: the function hornbook/glyph.Back and its contract. -/
namespace Go.Proofs.YtdbadfcekomomaaDoor.M
open Go.RowKit Go.Proofs.YtdbadfcekomomaaDoorW.PrintWords Go.Proofs.YtdbadfcekomomaaDoorW.PrintLast Go.Proofs.YtdbadfcekomomaaDoorW.PrintMore
attribute [local go_sem] max2_int min2_int max_two min_two max_three min_three max_four min_four
set_option linter.unusedVariables false
set_option linter.unusedSimpArgs false
def glyph_Back.l0 : Nat → Int → List ByteArray → Int → Int → Option (ByteArray × Bool)
 | 0, _, _, _, _ => none
 | k + 1, x0, x11, x12, x13 => if x13 < x12 then (if 0 ≤ x13 then (if x13 < (x11.length : Int) then ((strings_Cut.f (rdOf ByteArray.empty x11 x13) (⟨#[61]⟩ : ByteArray)).bind fun bt144 => ((glyph_values.f bt144.2.1).bind fun t147 => (if (t147.length : Int) = 1 then (if 0 < (t147.length : Int) then (if (rd t147 0) = x0 then (some (bt144.1, true)) else (glyph_Back.l0 k x0 x11 x12 (wrap64 (x13 + 1)))) else (none)) else (glyph_Back.l0 k x0 x11 x12 (wrap64 (x13 + 1)))))) else (none)) else (none)) else (some ((⟨#[]⟩ : ByteArray), false))
def glyph_Back.f (k : Nat) (a0 : Int) : Option (ByteArray × Bool) := (glyph_list.f k).bind fun t139 => ((strings_Fields.f t139).bind fun t140 => (glyph_Back.l0 k a0 t140 (t140.length : Int) 0))
theorem glyph_Back.mono_l : ∀ k, (∀ y0 y1 y2 y3, LeO (glyph_Back.l0 k y0 y1 y2 y3) (glyph_Back.l0 (k + 1) y0 y1 y2 y3))
 | 0 => fun _ _ _ _ r h => by simp [glyph_Back.l0] at h
 | k + 1 => by
  have ih0 := glyph_Back.mono_l k
  ·intro y0 y1 y2 y3
   unfold glyph_Back.l0
   repeat' first
   | (with_reducible exact ih0 _ _ _ _)
   | (with_reducible exact glyph_list.mono _)
   | (with_reducible exact LeO.refl _)
   | (with_reducible exact LeO.none _)
   | (with_reducible refine LeO.ite ?_ ?_)
   | (with_reducible refine LeO.bind ?_ (fun _ => ?_))
   | exact ih0 _ _ _ _
   | exact glyph_list.mono _
   | exact LeO.none _
   | refine LeO.ite ?_ ?_
   | refine LeO.bind ?_ (fun _ => ?_)
theorem glyph_Back.mono : ∀ a0 k, LeO (glyph_Back.f k a0) (glyph_Back.f (k + 1) a0) := by
 intro a0 k
 have ih0 := glyph_Back.mono_l k
 unfold glyph_Back.f
 repeat' first
   | (with_reducible exact ih0 _ _ _ _)
   | (with_reducible exact glyph_list.mono _)
   | (with_reducible exact LeO.refl _)
   | (with_reducible exact LeO.none _)
   | (with_reducible refine LeO.ite ?_ ?_)
   | (with_reducible refine LeO.bind ?_ (fun _ => ?_))
   | exact ih0 _ _ _ _
   | exact glyph_list.mono _
   | exact LeO.none _
   | refine LeO.ite ?_ ?_
   | refine LeO.bind ?_ (fun _ => ?_)
set_option maxHeartbeats 8000000 in
set_option maxRecDepth 100000 in
theorem glyph_Back.calls (k : Nat) (a0 : Int) (r1 : ByteArray) (r2 : Bool) (w : World) (hG : GW w) (h : glyph_Back.f k a0 = some (r1, r2)) :
  Calls Tryd.prog 9 #[.int .i64 a0] w fun e w' => e = .returned (.tuple #[.string r1, .bool r2]) ∧ Below w.heap.size w w' := by
 have HG := Aside0.mk hG
 clear hG
 have HB := Aside0.mk (Below.refl w.heap.size w)
 have H : ((glyph_list.f k).bind fun t139 => ((strings_Fields.f t139).bind fun t140 => (glyph_Back.l0 k a0 t140 (t140.length : Int) 0))) = some (r1, r2) := h
 clear h
 replace H := Option.bind_eq_some_iff.mp H
 obtain ⟨t139, A20, H⟩ := H
 replace H : ((strings_Fields.f t139).bind fun t140 => (glyph_Back.l0 k a0 t140 (t140.length : Int) 0)) = some (r1, r2) := H
 have A2 := Aside0.mk A20
 clear A20
 replace H := Option.bind_eq_some_iff.mp H
 obtain ⟨t140, A30, H⟩ := H
 replace H : (glyph_Back.l0 k a0 t140 (t140.length : Int) 0) = some (r1, r2) := H
 have A3 := Aside0.mk A30
 clear A30
 have H' := Aside0.mk H
 clear H
 go_enter Tryd.func9, Tryd.ntmps9
 go_wp2_with (first | ((with_reducible refine gate_callee (f := 19) rfl ?_); refine goesL_ (some 10) rfl rfl Tryd.func19 (by kernel_rfl) rfl #[] rfl (by (try simp only [List.map_toArray, List.map_cons, List.map_nil]); first | done | rfl | (simp only [List.length_drop, List.length_take]; rfl)) ?_; (with_reducible refine (glyph_list.calls k  t139 _ A2.out).mono ?_); rintro e w4 ⟨rfl, hb⟩; refine ⟨_, rfl, ?_⟩; have n0_ := Aside0.mk (below_step (by repeat (first | (with_reducible first | exact HB.out | apply below_alloc | apply pw_below_drewN | apply below_drew1) | exact HB.out)) hb); clear HB; have HB := n0_; clear n0_; (try clear hb); (try clear hb2); (try clear hk); (try clear hi)) | ((with_reducible refine gate_callee (f := 23) rfl ?_); refine goesL_ (some 11) rfl rfl Tryd.func23 (by kernel_rfl) rfl #[.string t139] rfl (by (try simp only [List.map_toArray, List.map_cons, List.map_nil]); first | done | rfl | (simp only [List.length_drop, List.length_take]; rfl)) ?_; (with_reducible refine (strings_Fields.calls t139 t140 _ ?side1 A3.out).mono ?_); (case side1 => exact GW.below (by repeat (first | (with_reducible first | exact HB.out | apply below_alloc | apply pw_below_drewN | apply below_drew1) | exact HB.out)) HG.out); rintro e w5 ⟨v141, rfl, ho0, hb⟩; refine ⟨_, rfl, ?_⟩; have n0_ := Aside0.mk (Kd.R_lower ho0 (below_size (by repeat (first | (with_reducible first | exact HB.out | apply below_alloc | apply pw_below_drewN | apply below_drew1) | exact HB.out)))); have n1_ := Aside0.mk (below_step (by repeat (first | (with_reducible first | exact HB.out | apply below_alloc | apply pw_below_drewN | apply below_drew1) | exact HB.out)) hb); clear HB; have HO142 := n0_; have HB := n1_; clear n0_ n1_; (try clear hb); (try clear hb2); (try clear hk); (try clear hi); (try clear ho0); obtain ⟨Ao6, co6, eo6⟩ := Kd.R_slice HO142.out; subst eo6))
 go_loopg [13] k (fun kq v13 w' => ∃ (x13_1 : Int), v13 = .int .i64 x13_1 ∧ Aside0 (glyph_Back.l0 kq a0 t140 (t140.length : Int) x13_1 = some (r1, r2)) ∧ Aside0 (kq ≤ k) ∧ Aside0 (Kd.R Kd.string 9 w' w.heap.size (fun _ => True) (.slice Ao6 t140.length co6) t140) ∧ Aside0 (Below w.heap.size w w'))
 case atStart => exact ⟨(0), (by first | rfl | (simp; done) | (simp [*]; done)), H', ⟨Nat.le_refl _⟩, ⟨by (with_reducible repeat (first | apply Kd.R_alloc | apply Kd.R_drewN | apply Kd.R_drew)); exact HO142.out⟩, ⟨by repeat (first | (with_reducible first | exact HB.out | apply below_alloc | apply pw_below_drewN | apply below_drew1) | exact HB.out)⟩⟩
 case round =>
  clear H'
  try clear c1
  try clear c2
  try clear p2
  obtain ⟨x13_1, rfl, HA, HK1, HO_11, HB⟩ := hrel
  cases gk with
  | zero => exact absurd HA.out (by simp [glyph_Back.l0])
  | succ k1 =>
   have H := HA.out
   clear HA
   simp only [glyph_Back.l0] at H
   by_cases c7 : x13_1 < (t140.length : Int)
   ·rw [if_pos c7] at H
    have c7b0 : decide (x13_1 < (t140.length : Int)) = true := decide_eq_true c7
    clear c7
    by_cases c8 : 0 ≤ x13_1
    ·rw [if_pos c8] at H
     have c8b0 : decide (0 ≤ x13_1) = true := decide_eq_true c8
     clear c8
     by_cases c9 : x13_1 < (t140.length : Int)
     ·rw [if_pos c9] at H
      have c9b0 : decide (x13_1 < (t140.length : Int)) = true := decide_eq_true c9
      clear c9
      replace H := Option.bind_eq_some_iff.mp H
      obtain ⟨⟨t144, t145, t146⟩, A100, H⟩ := H
      replace H : ((glyph_values.f t145).bind fun t147 => (if (t147.length : Int) = 1 then (if 0 < (t147.length : Int) then (if (rd t147 0) = a0 then (some (t144, true)) else (glyph_Back.l0 k1 a0 t140 (t140.length : Int) (wrap64 (x13_1 + 1)))) else (none)) else (glyph_Back.l0 k1 a0 t140 (t140.length : Int) (wrap64 (x13_1 + 1))))) = some (r1, r2) := H
      have A10 := Aside0.mk A100
      clear A100
      replace H := Option.bind_eq_some_iff.mp H
      obtain ⟨t147, A110, H⟩ := H
      replace H : (if (t147.length : Int) = 1 then (if 0 < (t147.length : Int) then (if (rd t147 0) = a0 then (some (t144, true)) else (glyph_Back.l0 k1 a0 t140 (t140.length : Int) (wrap64 (x13_1 + 1)))) else (none)) else (glyph_Back.l0 k1 a0 t140 (t140.length : Int) (wrap64 (x13_1 + 1)))) = some (r1, r2) := H
      have A11 := Aside0.mk A110
      clear A110
      by_cases c12 : (t147.length : Int) = 1
      ·rw [if_pos c12] at H
       have c12b0 : ((t147.length : Int) == 1) = true := beq_iff_eq.mpr c12
       have c12b1 : ((t147.length : Int) != 1) = false := bne_eq_false_iff_eq.mpr c12
       clear c12
       by_cases c13 : 0 < (t147.length : Int)
       ·rw [if_pos c13] at H
        have c13b0 : decide (0 < (t147.length : Int)) = true := decide_eq_true c13
        have c13b1 : decide (0 < t147.length) = true := decide_eq_true (by omega)
        clear c13
        by_cases c14 : (rd t147 0) = a0
        ·rw [if_pos c14] at H
         have c14b0 : ((rd t147 0) == a0) = true := beq_iff_eq.mpr c14
         have c14b1 : ((rd t147 0) != a0) = false := bne_eq_false_iff_eq.mpr c14
         clear c14
         simp only [Option.some.injEq, Prod.mk.injEq] at H
         obtain ⟨rfl, rfl⟩ := H
         have p143 : 0 ≤ (x13_1 : Int) := of_decide_eq_true (by first | (with_reducible assumption) | assumption)
         have q143 : x13_1 < (t140.length : Int) := of_decide_eq_true (by first | (with_reducible assumption) | assumption)
         obtain ⟨ad143, e143, hx143_0⟩ := Kd.at_string (Kd.R_reads' HO_11.out).2.2 x13_1 p143 q143
         cases e143
         replace p143 := eq_true p143
         replace q143 := eq_true q143
         go_wp2_with (first | ((with_reducible refine gate_callee (f := 18) rfl ?_); refine goesL_ (some 19) rfl rfl Tryd.func18 (by kernel_rfl) rfl #[.string (rdOf ByteArray.empty t140 x13_1), .string (⟨#[61]⟩ : ByteArray)] rfl (by (try simp only [List.map_toArray, List.map_cons, List.map_nil]); first | done | rfl | (simp only [List.length_drop, List.length_take]; rfl)) ?_; (with_reducible refine (strings_Cut.calls (rdOf ByteArray.empty t140 x13_1) (⟨#[61]⟩ : ByteArray) t144 t145 t146 _ ?side1 A10.out).mono ?_); (case side1 => exact GW.below (by repeat (first | (with_reducible first | exact HB.out | apply below_alloc | apply pw_below_drewN | apply below_drew1) | exact HB.out)) HG.out); rintro e w15 ⟨rfl, hb⟩; refine ⟨_, rfl, ?_⟩; have n0_ := Aside0.mk (Kd.R_below (by (with_reducible repeat (first | apply Kd.R_alloc | apply Kd.R_drewN | apply Kd.R_drew)); exact HO_11.out) hb); have n1_ := Aside0.mk (below_step (by repeat (first | (with_reducible first | exact HB.out | apply below_alloc | apply pw_below_drewN | apply below_drew1) | exact HB.out)) hb); clear HO_11; clear HB; have HO_11 := n0_; have HB := n1_; clear n0_ n1_; (try clear hb); (try clear hb2); (try clear hk); (try clear hi)) | ((with_reducible refine gate_callee (f := 20) rfl ?_); refine goesL_ (some 24) rfl rfl Tryd.func20 (by kernel_rfl) rfl #[.string t145] rfl (by (try simp only [List.map_toArray, List.map_cons, List.map_nil]); first | done | rfl | (simp only [List.length_drop, List.length_take]; rfl)) ?_; (with_reducible refine (glyph_values.calls t145 t147 _ A11.out).mono ?_); rintro e w16 ⟨v148, rfl, ho0, hb⟩; refine ⟨_, rfl, ?_⟩; have n0_ := Aside0.mk (Kd.R_below (by (with_reducible repeat (first | apply Kd.R_alloc | apply Kd.R_drewN | apply Kd.R_drew)); exact HO_11.out) hb); have n1_ := Aside0.mk (Kd.R_lower ho0 (below_size (by repeat (first | (with_reducible first | exact HB.out | apply below_alloc | apply pw_below_drewN | apply below_drew1) | exact HB.out)))); have n2_ := Aside0.mk (below_step (by repeat (first | (with_reducible first | exact HB.out | apply below_alloc | apply pw_below_drewN | apply below_drew1) | exact HB.out)) hb); clear HO_11; clear HB; have HO_11 := n0_; have HO149 := n1_; have HB := n2_; clear n0_ n1_ n2_; (try clear hb); (try clear hb2); (try clear hk); (try clear hi); (try clear ho0); obtain ⟨Ao17, co17, eo17⟩ := Kd.R_slice HO149.out; subst eo17; have p150 : 0 ≤ (0 : Int) := (by omega); have q150 : 0 < (t147.length : Int) := of_decide_eq_true (by first | (with_reducible assumption) | assumption); obtain ⟨ad150, e150, hx150_0⟩ := Kd.at_int (Kd.R_reads' HO149.out).2.2 0 p150 q150; cases e150; have qi150 : (0 < t147.length) = True := eq_true (by omega); (try rw [show ((0 : Int)).toNat = 0 from rfl] at hx150_0); (try rw [Addr.add_zero'] at hx150_0); replace p150 := eq_true p150; replace q150 := eq_true q150))
         go_ret2
         exact ⟨by first | rfl | (simp [errW_none, errW_some] <;> rfl) | (simp [*, errW_none, errW_some] <;> rfl), by repeat (first | (with_reducible first | exact HB.out | apply below_alloc | apply pw_below_drewN | apply below_drew1) | exact HB.out)⟩
        ·rw [if_neg c14] at H
         have c14b0 : ((rd t147 0) == a0) = false := beq_eq_false_iff_ne.mpr c14
         have c14b1 : ((rd t147 0) != a0) = true := bne_iff_ne.mpr c14
         have H' := Aside0.mk H
         clear H
         have p143 : 0 ≤ (x13_1 : Int) := of_decide_eq_true (by first | (with_reducible assumption) | assumption)
         have q143 : x13_1 < (t140.length : Int) := of_decide_eq_true (by first | (with_reducible assumption) | assumption)
         obtain ⟨ad143, e143, hx143_0⟩ := Kd.at_string (Kd.R_reads' HO_11.out).2.2 x13_1 p143 q143
         cases e143
         replace p143 := eq_true p143
         replace q143 := eq_true q143
         go_wp2_with (first | ((with_reducible refine gate_callee (f := 18) rfl ?_); refine goesL_ (some 19) rfl rfl Tryd.func18 (by kernel_rfl) rfl #[.string (rdOf ByteArray.empty t140 x13_1), .string (⟨#[61]⟩ : ByteArray)] rfl (by (try simp only [List.map_toArray, List.map_cons, List.map_nil]); first | done | rfl | (simp only [List.length_drop, List.length_take]; rfl)) ?_; (with_reducible refine (strings_Cut.calls (rdOf ByteArray.empty t140 x13_1) (⟨#[61]⟩ : ByteArray) t144 t145 t146 _ ?side1 A10.out).mono ?_); (case side1 => exact GW.below (by repeat (first | (with_reducible first | exact HB.out | apply below_alloc | apply pw_below_drewN | apply below_drew1) | exact HB.out)) HG.out); rintro e w18 ⟨rfl, hb⟩; refine ⟨_, rfl, ?_⟩; have n0_ := Aside0.mk (Kd.R_below (by (with_reducible repeat (first | apply Kd.R_alloc | apply Kd.R_drewN | apply Kd.R_drew)); exact HO_11.out) hb); have n1_ := Aside0.mk (below_step (by repeat (first | (with_reducible first | exact HB.out | apply below_alloc | apply pw_below_drewN | apply below_drew1) | exact HB.out)) hb); clear HO_11; clear HB; have HO_11 := n0_; have HB := n1_; clear n0_ n1_; (try clear hb); (try clear hb2); (try clear hk); (try clear hi)) | ((with_reducible refine gate_callee (f := 20) rfl ?_); refine goesL_ (some 24) rfl rfl Tryd.func20 (by kernel_rfl) rfl #[.string t145] rfl (by (try simp only [List.map_toArray, List.map_cons, List.map_nil]); first | done | rfl | (simp only [List.length_drop, List.length_take]; rfl)) ?_; (with_reducible refine (glyph_values.calls t145 t147 _ A11.out).mono ?_); rintro e w19 ⟨v148, rfl, ho0, hb⟩; refine ⟨_, rfl, ?_⟩; have n0_ := Aside0.mk (Kd.R_below (by (with_reducible repeat (first | apply Kd.R_alloc | apply Kd.R_drewN | apply Kd.R_drew)); exact HO_11.out) hb); have n1_ := Aside0.mk (Kd.R_lower ho0 (below_size (by repeat (first | (with_reducible first | exact HB.out | apply below_alloc | apply pw_below_drewN | apply below_drew1) | exact HB.out)))); have n2_ := Aside0.mk (below_step (by repeat (first | (with_reducible first | exact HB.out | apply below_alloc | apply pw_below_drewN | apply below_drew1) | exact HB.out)) hb); clear HO_11; clear HB; have HO_11 := n0_; have HO149 := n1_; have HB := n2_; clear n0_ n1_ n2_; (try clear hb); (try clear hb2); (try clear hk); (try clear hi); (try clear ho0); obtain ⟨Ao20, co20, eo20⟩ := Kd.R_slice HO149.out; subst eo20; have p150 : 0 ≤ (0 : Int) := (by omega); have q150 : 0 < (t147.length : Int) := of_decide_eq_true (by first | (with_reducible assumption) | assumption); obtain ⟨ad150, e150, hx150_0⟩ := Kd.at_int (Kd.R_reads' HO149.out).2.2 0 p150 q150; cases e150; have qi150 : (0 < t147.length) = True := eq_true (by omega); (try rw [show ((0 : Int)).toNat = 0 from rfl] at hx150_0); (try rw [Addr.add_zero'] at hx150_0); replace p150 := eq_true p150; replace q150 := eq_true q150))
         go_roundg k1
         case measure => have := HK1.out; omega
         case rel => exact ⟨(wrap64 (x13_1 + 1)), (by first | rfl | (simp; done) | (simp [*]; done)), H', ⟨by have := HK1.out; omega⟩, ⟨by (with_reducible repeat (first | apply Kd.R_alloc | apply Kd.R_drewN | apply Kd.R_drew)); exact HO_11.out⟩, ⟨by repeat (first | (with_reducible first | exact HB.out | apply below_alloc | apply pw_below_drewN | apply below_drew1) | exact HB.out)⟩⟩
       ·rw [if_neg c13] at H
        exact absurd H (by simp)
      ·rw [if_neg c12] at H
       have c12b0 : ((t147.length : Int) == 1) = false := beq_eq_false_iff_ne.mpr c12
       have c12b1 : ((t147.length : Int) != 1) = true := bne_iff_ne.mpr c12
       have H' := Aside0.mk H
       clear H
       have p143 : 0 ≤ (x13_1 : Int) := of_decide_eq_true (by first | (with_reducible assumption) | assumption)
       have q143 : x13_1 < (t140.length : Int) := of_decide_eq_true (by first | (with_reducible assumption) | assumption)
       obtain ⟨ad143, e143, hx143_0⟩ := Kd.at_string (Kd.R_reads' HO_11.out).2.2 x13_1 p143 q143
       cases e143
       replace p143 := eq_true p143
       replace q143 := eq_true q143
       go_wp2_with (first | ((with_reducible refine gate_callee (f := 18) rfl ?_); refine goesL_ (some 19) rfl rfl Tryd.func18 (by kernel_rfl) rfl #[.string (rdOf ByteArray.empty t140 x13_1), .string (⟨#[61]⟩ : ByteArray)] rfl (by (try simp only [List.map_toArray, List.map_cons, List.map_nil]); first | done | rfl | (simp only [List.length_drop, List.length_take]; rfl)) ?_; (with_reducible refine (strings_Cut.calls (rdOf ByteArray.empty t140 x13_1) (⟨#[61]⟩ : ByteArray) t144 t145 t146 _ ?side1 A10.out).mono ?_); (case side1 => exact GW.below (by repeat (first | (with_reducible first | exact HB.out | apply below_alloc | apply pw_below_drewN | apply below_drew1) | exact HB.out)) HG.out); rintro e w21 ⟨rfl, hb⟩; refine ⟨_, rfl, ?_⟩; have n0_ := Aside0.mk (Kd.R_below (by (with_reducible repeat (first | apply Kd.R_alloc | apply Kd.R_drewN | apply Kd.R_drew)); exact HO_11.out) hb); have n1_ := Aside0.mk (below_step (by repeat (first | (with_reducible first | exact HB.out | apply below_alloc | apply pw_below_drewN | apply below_drew1) | exact HB.out)) hb); clear HO_11; clear HB; have HO_11 := n0_; have HB := n1_; clear n0_ n1_; (try clear hb); (try clear hb2); (try clear hk); (try clear hi)) | ((with_reducible refine gate_callee (f := 20) rfl ?_); refine goesL_ (some 24) rfl rfl Tryd.func20 (by kernel_rfl) rfl #[.string t145] rfl (by (try simp only [List.map_toArray, List.map_cons, List.map_nil]); first | done | rfl | (simp only [List.length_drop, List.length_take]; rfl)) ?_; (with_reducible refine (glyph_values.calls t145 t147 _ A11.out).mono ?_); rintro e w22 ⟨v148, rfl, ho0, hb⟩; refine ⟨_, rfl, ?_⟩; have n0_ := Aside0.mk (Kd.R_below (by (with_reducible repeat (first | apply Kd.R_alloc | apply Kd.R_drewN | apply Kd.R_drew)); exact HO_11.out) hb); have n1_ := Aside0.mk (Kd.R_lower ho0 (below_size (by repeat (first | (with_reducible first | exact HB.out | apply below_alloc | apply pw_below_drewN | apply below_drew1) | exact HB.out)))); have n2_ := Aside0.mk (below_step (by repeat (first | (with_reducible first | exact HB.out | apply below_alloc | apply pw_below_drewN | apply below_drew1) | exact HB.out)) hb); clear HO_11; clear HB; have HO_11 := n0_; have HO149 := n1_; have HB := n2_; clear n0_ n1_ n2_; (try clear hb); (try clear hb2); (try clear hk); (try clear hi); (try clear ho0); obtain ⟨Ao23, co23, eo23⟩ := Kd.R_slice HO149.out; subst eo23))
       go_roundg k1
       case measure => have := HK1.out; omega
       case rel => exact ⟨(wrap64 (x13_1 + 1)), (by first | rfl | (simp; done) | (simp [*]; done)), H', ⟨by have := HK1.out; omega⟩, ⟨by (with_reducible repeat (first | apply Kd.R_alloc | apply Kd.R_drewN | apply Kd.R_drew)); exact HO_11.out⟩, ⟨by repeat (first | (with_reducible first | exact HB.out | apply below_alloc | apply pw_below_drewN | apply below_drew1) | exact HB.out)⟩⟩
     ·rw [if_neg c9] at H
      exact absurd H (by simp)
    ·rw [if_neg c8] at H
     exact absurd H (by simp)
   ·rw [if_neg c7] at H
    have c7b0 : decide (x13_1 < (t140.length : Int)) = false := decide_eq_false c7
    clear c7
    simp only [Option.some.injEq, Prod.mk.injEq] at H
    obtain ⟨rfl, rfl⟩ := H
    go_wp2
    go_ret2
    exact ⟨by first | rfl | (simp [errW_none, errW_some] <;> rfl) | (simp [*, errW_none, errW_some] <;> rfl), by repeat (first | (with_reducible first | exact HB.out | apply below_alloc | apply pw_below_drewN | apply below_drew1) | exact HB.out)⟩
end Go.Proofs.YtdbadfcekomomaaDoor.M
end
section
/- Laid by this session's program hbprint.py out of the translation: the function hornbook/hornbooklaw14.awake and its contract. -/
namespace Go.Proofs.YtdbadfcekomomaaDoor.M
open Go.RowKit Go.Proofs.YtdbadfcekomomaaDoorW.PrintWords Go.Proofs.YtdbadfcekomomaaDoorW.PrintLast Go.Proofs.YtdbadfcekomomaaDoorW.PrintMore
attribute [local go_sem] max2_int min2_int max_two min_two max_three min_three max_four min_four
set_option linter.unusedVariables false
set_option linter.unusedSimpArgs false
def hornbooklaw14_awake.f (k : Nat)  : Option (Bool) := (glyph_Uni.f k (⟨#[65]⟩ : ByteArray)).bind fun bt165 => ((glyph_Uni.f k (⟨#[100, 97, 108, 101, 116, 104, 97, 116, 97, 102, 112, 97, 116, 97, 104]⟩ : ByteArray)).bind fun bt169 => ((glyph_Back.f k 65).bind fun bt173 => (if bt165.2 = true then (if (bt165.1.length : Int) = 1 then (if 0 < (bt165.1.length : Int) then (if (rd bt165.1 0) = 65 then (if bt169.2 = true then (if (bt169.1.length : Int) = 2 then (if 0 < (bt169.1.length : Int) then (if (rd bt169.1 0) = 1491 then (if bt173.2 = true then (if bt173.1.toList = ([65] : List UInt8) then ((glyph_Count.f k).bind fun t177 => (some (decide (t177 > 300)))) else (some false)) else (some false)) else (some false)) else (none)) else (some false)) else (some false)) else (some false)) else (none)) else (some false)) else (some false))))
theorem hornbooklaw14_awake.mono : ∀ k, LeO (hornbooklaw14_awake.f k ) (hornbooklaw14_awake.f (k + 1) ) := by
 intro  k
 unfold hornbooklaw14_awake.f
 repeat' first
   | (with_reducible exact glyph_Back.mono _ _)
   | (with_reducible exact glyph_Count.mono _)
   | (with_reducible exact glyph_Uni.mono _ _)
   | (with_reducible exact LeO.refl _)
   | (with_reducible exact LeO.none _)
   | (with_reducible refine LeO.ite ?_ ?_)
   | (with_reducible refine LeO.bind ?_ (fun _ => ?_))
   | exact glyph_Back.mono _ _
   | exact glyph_Count.mono _
   | exact glyph_Uni.mono _ _
   | exact LeO.none _
   | refine LeO.ite ?_ ?_
   | refine LeO.bind ?_ (fun _ => ?_)
set_option maxHeartbeats 8000000 in
set_option maxRecDepth 100000 in
theorem hornbooklaw14_awake.calls (k : Nat)  (r : Bool) (w : World) (hG : GW w) (h : hornbooklaw14_awake.f k  = some r) :
  Calls Tryd.prog 6 #[] w fun e w' => e = .returned (.bool r) ∧ Below w.heap.size w w' := by
 have HG := Aside0.mk hG
 clear hG
 have HB := Aside0.mk (Below.refl w.heap.size w)
 have H : ((glyph_Uni.f k (⟨#[65]⟩ : ByteArray)).bind fun bt165 => ((glyph_Uni.f k (⟨#[100, 97, 108, 101, 116, 104, 97, 116, 97, 102, 112, 97, 116, 97, 104]⟩ : ByteArray)).bind fun bt169 => ((glyph_Back.f k 65).bind fun bt173 => (if bt165.2 = true then (if (bt165.1.length : Int) = 1 then (if 0 < (bt165.1.length : Int) then (if (rd bt165.1 0) = 65 then (if bt169.2 = true then (if (bt169.1.length : Int) = 2 then (if 0 < (bt169.1.length : Int) then (if (rd bt169.1 0) = 1491 then (if bt173.2 = true then (if bt173.1.toList = ([65] : List UInt8) then ((glyph_Count.f k).bind fun t177 => (some (decide (t177 > 300)))) else (some false)) else (some false)) else (some false)) else (none)) else (some false)) else (some false)) else (some false)) else (none)) else (some false)) else (some false))))) = some r := h
 clear h
 replace H := Option.bind_eq_some_iff.mp H
 obtain ⟨⟨t165, t166⟩, A10, H⟩ := H
 replace H : ((glyph_Uni.f k (⟨#[100, 97, 108, 101, 116, 104, 97, 116, 97, 102, 112, 97, 116, 97, 104]⟩ : ByteArray)).bind fun bt169 => ((glyph_Back.f k 65).bind fun bt173 => (if t166 = true then (if (t165.length : Int) = 1 then (if 0 < (t165.length : Int) then (if (rd t165 0) = 65 then (if bt169.2 = true then (if (bt169.1.length : Int) = 2 then (if 0 < (bt169.1.length : Int) then (if (rd bt169.1 0) = 1491 then (if bt173.2 = true then (if bt173.1.toList = ([65] : List UInt8) then ((glyph_Count.f k).bind fun t177 => (some (decide (t177 > 300)))) else (some false)) else (some false)) else (some false)) else (none)) else (some false)) else (some false)) else (some false)) else (none)) else (some false)) else (some false)))) = some r := H
 have A1 := Aside0.mk A10
 clear A10
 replace H := Option.bind_eq_some_iff.mp H
 obtain ⟨⟨t169, t170⟩, A20, H⟩ := H
 replace H : ((glyph_Back.f k 65).bind fun bt173 => (if t166 = true then (if (t165.length : Int) = 1 then (if 0 < (t165.length : Int) then (if (rd t165 0) = 65 then (if t170 = true then (if (t169.length : Int) = 2 then (if 0 < (t169.length : Int) then (if (rd t169 0) = 1491 then (if bt173.2 = true then (if bt173.1.toList = ([65] : List UInt8) then ((glyph_Count.f k).bind fun t177 => (some (decide (t177 > 300)))) else (some false)) else (some false)) else (some false)) else (none)) else (some false)) else (some false)) else (some false)) else (none)) else (some false)) else (some false))) = some r := H
 have A2 := Aside0.mk A20
 clear A20
 replace H := Option.bind_eq_some_iff.mp H
 obtain ⟨⟨t173, t174⟩, A30, H⟩ := H
 replace H : (if t166 = true then (if (t165.length : Int) = 1 then (if 0 < (t165.length : Int) then (if (rd t165 0) = 65 then (if t170 = true then (if (t169.length : Int) = 2 then (if 0 < (t169.length : Int) then (if (rd t169 0) = 1491 then (if t174 = true then (if t173.toList = ([65] : List UInt8) then ((glyph_Count.f k).bind fun t177 => (some (decide (t177 > 300)))) else (some false)) else (some false)) else (some false)) else (none)) else (some false)) else (some false)) else (some false)) else (none)) else (some false)) else (some false)) = some r := H
 have A3 := Aside0.mk A30
 clear A30
 by_cases c4 : t166 = true
 ·subst c4
  have H1 : (if (t165.length : Int) = 1 then (if 0 < (t165.length : Int) then (if (rd t165 0) = 65 then (if t170 = true then (if (t169.length : Int) = 2 then (if 0 < (t169.length : Int) then (if (rd t169 0) = 1491 then (if t174 = true then (if t173.toList = ([65] : List UInt8) then ((glyph_Count.f k).bind fun t177 => (some (decide (t177 > 300)))) else (some false)) else (some false)) else (some false)) else (none)) else (some false)) else (some false)) else (some false)) else (none)) else (some false)) = some r := by rw [if_pos rfl] at H; exact H
  clear H
  have H := H1
  clear H1
  by_cases c5 : (t165.length : Int) = 1
  ·rw [if_pos c5] at H
   have c5b0 : ((t165.length : Int) == 1) = true := beq_iff_eq.mpr c5
   have c5b1 : ((t165.length : Int) != 1) = false := bne_eq_false_iff_eq.mpr c5
   clear c5
   by_cases c6 : 0 < (t165.length : Int)
   ·rw [if_pos c6] at H
    have c6b0 : decide (0 < (t165.length : Int)) = true := decide_eq_true c6
    have c6b1 : decide (0 < t165.length) = true := decide_eq_true (by omega)
    clear c6
    by_cases c7 : (rd t165 0) = 65
    ·rw [if_pos c7] at H
     have c7b0 : ((rd t165 0) == 65) = true := beq_iff_eq.mpr c7
     have c7b1 : ((rd t165 0) != 65) = false := bne_eq_false_iff_eq.mpr c7
     clear c7
     by_cases c8 : t170 = true
     ·subst c8
      have H1 : (if (t169.length : Int) = 2 then (if 0 < (t169.length : Int) then (if (rd t169 0) = 1491 then (if t174 = true then (if t173.toList = ([65] : List UInt8) then ((glyph_Count.f k).bind fun t177 => (some (decide (t177 > 300)))) else (some false)) else (some false)) else (some false)) else (none)) else (some false)) = some r := by rw [if_pos rfl] at H; exact H
      clear H
      have H := H1
      clear H1
      by_cases c9 : (t169.length : Int) = 2
      ·rw [if_pos c9] at H
       have c9b0 : ((t169.length : Int) == 2) = true := beq_iff_eq.mpr c9
       have c9b1 : ((t169.length : Int) != 2) = false := bne_eq_false_iff_eq.mpr c9
       clear c9
       by_cases c10 : 0 < (t169.length : Int)
       ·rw [if_pos c10] at H
        have c10b0 : decide (0 < (t169.length : Int)) = true := decide_eq_true c10
        have c10b1 : decide (0 < t169.length) = true := decide_eq_true (by omega)
        clear c10
        by_cases c11 : (rd t169 0) = 1491
        ·rw [if_pos c11] at H
         have c11b0 : ((rd t169 0) == 1491) = true := beq_iff_eq.mpr c11
         have c11b1 : ((rd t169 0) != 1491) = false := bne_eq_false_iff_eq.mpr c11
         clear c11
         by_cases c12 : t174 = true
         ·subst c12
          have H1 : (if t173.toList = ([65] : List UInt8) then ((glyph_Count.f k).bind fun t177 => (some (decide (t177 > 300)))) else (some false)) = some r := by rw [if_pos rfl] at H; exact H
          clear H
          have H := H1
          clear H1
          by_cases c13 : t173.toList = ([65] : List UInt8)
          ·rw [if_pos c13] at H
           have c13b0 : (t173.toList == ([65] : List UInt8)) = true := beq_iff_eq.mpr c13
           have c13b1 : (t173.toList != ([65] : List UInt8)) = false := bne_eq_false_iff_eq.mpr c13
           clear c13
           replace H := Option.bind_eq_some_iff.mp H
           obtain ⟨t177, A140, H⟩ := H
           replace H : (some (decide (t177 > 300))) = some r := H
           have A14 := Aside0.mk A140
           clear A140
           obtain rfl := Option.some.inj H
           go_enter Tryd.func6, Tryd.ntmps6
           go_wp2_with (first | ((with_reducible refine gate_callee (f := 7) rfl ?_); refine goesL_ (some 8) rfl rfl Tryd.func7 (by kernel_rfl) rfl #[.string (⟨#[65]⟩ : ByteArray)] rfl (by (try simp only [List.map_toArray, List.map_cons, List.map_nil]); first | done | rfl | (simp only [List.length_drop, List.length_take]; rfl)) ?_; (with_reducible refine (glyph_Uni.calls k (⟨#[65]⟩ : ByteArray) t165 true _ ?side1 A1.out).mono ?_); (case side1 => exact GW.below (by repeat (first | (with_reducible first | exact HB.out | apply below_alloc | apply pw_below_drewN | apply below_drew1) | exact HB.out)) HG.out); rintro e w15 ⟨v167, rfl, ho0, hb⟩; refine ⟨_, rfl, ?_⟩; have n0_ := Aside0.mk (Kd.R_lower ho0 (below_size (by repeat (first | (with_reducible first | exact HB.out | apply below_alloc | apply pw_below_drewN | apply below_drew1) | exact HB.out)))); have n1_ := Aside0.mk (below_step (by repeat (first | (with_reducible first | exact HB.out | apply below_alloc | apply pw_below_drewN | apply below_drew1) | exact HB.out)) hb); clear HB; have HO168 := n0_; have HB := n1_; clear n0_ n1_; (try clear hb); (try clear hb2); (try clear hk); (try clear hi); (try clear ho0)) | ((with_reducible refine gate_callee (f := 7) rfl ?_); refine goesL_ (some 12) rfl rfl Tryd.func7 (by kernel_rfl) rfl #[.string (⟨#[100, 97, 108, 101, 116, 104, 97, 116, 97, 102, 112, 97, 116, 97, 104]⟩ : ByteArray)] rfl (by (try simp only [List.map_toArray, List.map_cons, List.map_nil]); first | done | rfl | (simp only [List.length_drop, List.length_take]; rfl)) ?_; (with_reducible refine (glyph_Uni.calls k (⟨#[100, 97, 108, 101, 116, 104, 97, 116, 97, 102, 112, 97, 116, 97, 104]⟩ : ByteArray) t169 true _ ?side1 A2.out).mono ?_); (case side1 => exact GW.below (by repeat (first | (with_reducible first | exact HB.out | apply below_alloc | apply pw_below_drewN | apply below_drew1) | exact HB.out)) HG.out); rintro e w16 ⟨v171, rfl, ho0, hb⟩; refine ⟨_, rfl, ?_⟩; have n0_ := Aside0.mk (Kd.R_elder' (by (with_reducible repeat (first | apply Kd.R_alloc | apply Kd.R_drewN | apply Kd.R_drew)); exact HO168.out) (Kd.R_base ho0) hb); have n1_ := Aside0.mk (Kd.R_lower (Kd.R_new' ho0 (Kd.R_lt (by (with_reducible repeat (first | apply Kd.R_alloc | apply Kd.R_drewN | apply Kd.R_drew)); exact HO168.out))) (below_size (by repeat (first | (with_reducible first | exact HB.out | apply below_alloc | apply pw_below_drewN | apply below_drew1) | exact HB.out)))); have n2_ := Aside0.mk (below_step (by repeat (first | (with_reducible first | exact HB.out | apply below_alloc | apply pw_below_drewN | apply below_drew1) | exact HB.out)) hb); clear HO168; clear HB; have HO168 := n0_; have HO172 := n1_; have HB := n2_; clear n0_ n1_ n2_; (try clear hb); (try clear hb2); (try clear hk); (try clear hi); (try clear ho0)) | ((with_reducible refine gate_callee (f := 9) rfl ?_); refine goesL_ (some 16) rfl rfl Tryd.func9 (by kernel_rfl) rfl #[.int .i64 65] rfl (by (try simp only [List.map_toArray, List.map_cons, List.map_nil]); first | done | rfl | (simp only [List.length_drop, List.length_take]; rfl)) ?_; (with_reducible refine (glyph_Back.calls k 65 t173 true _ ?side1 A3.out).mono ?_); (case side1 => exact GW.below (by repeat (first | (with_reducible first | exact HB.out | apply below_alloc | apply pw_below_drewN | apply below_drew1) | exact HB.out)) HG.out); rintro e w17 ⟨rfl, hb⟩; refine ⟨_, rfl, ?_⟩; have n0_ := Aside0.mk (Kd.R_below (by (with_reducible repeat (first | apply Kd.R_alloc | apply Kd.R_drewN | apply Kd.R_drew)); exact HO168.out) hb); have n1_ := Aside0.mk (Kd.R_below (by (with_reducible repeat (first | apply Kd.R_alloc | apply Kd.R_drewN | apply Kd.R_drew)); exact HO172.out) hb); have n2_ := Aside0.mk (below_step (by repeat (first | (with_reducible first | exact HB.out | apply below_alloc | apply pw_below_drewN | apply below_drew1) | exact HB.out)) hb); clear HO168; clear HO172; clear HB; have HO168 := n0_; have HO172 := n1_; have HB := n2_; clear n0_ n1_ n2_; (try clear hb); (try clear hb2); (try clear hk); (try clear hi); obtain ⟨Ao18, co18, eo18⟩ := Kd.R_slice HO168.out; subst eo18; have p175 : 0 ≤ (0 : Int) := (by omega); have q175 : 0 < (t165.length : Int) := of_decide_eq_true (by first | (with_reducible assumption) | assumption); obtain ⟨ad175, e175, hx175_0⟩ := Kd.at_int (Kd.R_reads' HO168.out).2.2 0 p175 q175; cases e175; have qi175 : (0 < t165.length) = True := eq_true (by omega); (try rw [show ((0 : Int)).toNat = 0 from rfl] at hx175_0); (try rw [Addr.add_zero'] at hx175_0); replace p175 := eq_true p175; replace q175 := eq_true q175; obtain ⟨Ao19, co19, eo19⟩ := Kd.R_slice HO172.out; subst eo19; have p176 : 0 ≤ (0 : Int) := (by omega); have q176 : 0 < (t169.length : Int) := of_decide_eq_true (by first | (with_reducible assumption) | assumption); obtain ⟨ad176, e176, hx176_0⟩ := Kd.at_int (Kd.R_reads' HO172.out).2.2 0 p176 q176; cases e176; have qi176 : (0 < t169.length) = True := eq_true (by omega); (try rw [show ((0 : Int)).toNat = 0 from rfl] at hx176_0); (try rw [Addr.add_zero'] at hx176_0); replace p176 := eq_true p176; replace q176 := eq_true q176) | (go_at_call 13; (with_reducible refine (glyph_Count.calls k  t177 _ ?side1 A14.out).mono ?_); (case side1 => exact GW.below (by repeat (first | (with_reducible first | exact HB.out | apply below_alloc | apply pw_below_drewN | apply below_drew1) | exact HB.out)) HG.out); rintro e w20 ⟨rfl, hb⟩; have n0_ := Aside0.mk (Kd.R_below (by (with_reducible repeat (first | apply Kd.R_alloc | apply Kd.R_drewN | apply Kd.R_drew)); exact HO168.out) hb); have n1_ := Aside0.mk (Kd.R_below (by (with_reducible repeat (first | apply Kd.R_alloc | apply Kd.R_drewN | apply Kd.R_drew)); exact HO172.out) hb); have n2_ := Aside0.mk (below_step (by repeat (first | (with_reducible first | exact HB.out | apply below_alloc | apply pw_below_drewN | apply below_drew1) | exact HB.out)) hb); clear HO168; clear HO172; clear HB; have HO168 := n0_; have HO172 := n1_; have HB := n2_; clear n0_ n1_ n2_; (try clear hb); (try clear hb2); (try clear hk); (try clear hi)))
           go_ret
           exact ⟨by first | rfl | (simp [errW_none, errW_some] <;> rfl) | (simp [*, errW_none, errW_some] <;> rfl), by repeat (first | (with_reducible first | exact HB.out | apply below_alloc | apply pw_below_drewN | apply below_drew1) | exact HB.out)⟩
          ·rw [if_neg c13] at H
           have c13b0 : (t173.toList == ([65] : List UInt8)) = false := beq_eq_false_iff_ne.mpr c13
           have c13b1 : (t173.toList != ([65] : List UInt8)) = true := bne_iff_ne.mpr c13
           obtain rfl := Option.some.inj H
           go_enter Tryd.func6, Tryd.ntmps6
           go_wp2_with (first | ((with_reducible refine gate_callee (f := 7) rfl ?_); refine goesL_ (some 8) rfl rfl Tryd.func7 (by kernel_rfl) rfl #[.string (⟨#[65]⟩ : ByteArray)] rfl (by (try simp only [List.map_toArray, List.map_cons, List.map_nil]); first | done | rfl | (simp only [List.length_drop, List.length_take]; rfl)) ?_; (with_reducible refine (glyph_Uni.calls k (⟨#[65]⟩ : ByteArray) t165 true _ ?side1 A1.out).mono ?_); (case side1 => exact GW.below (by repeat (first | (with_reducible first | exact HB.out | apply below_alloc | apply pw_below_drewN | apply below_drew1) | exact HB.out)) HG.out); rintro e w21 ⟨v167, rfl, ho0, hb⟩; refine ⟨_, rfl, ?_⟩; have n0_ := Aside0.mk (Kd.R_lower ho0 (below_size (by repeat (first | (with_reducible first | exact HB.out | apply below_alloc | apply pw_below_drewN | apply below_drew1) | exact HB.out)))); have n1_ := Aside0.mk (below_step (by repeat (first | (with_reducible first | exact HB.out | apply below_alloc | apply pw_below_drewN | apply below_drew1) | exact HB.out)) hb); clear HB; have HO168 := n0_; have HB := n1_; clear n0_ n1_; (try clear hb); (try clear hb2); (try clear hk); (try clear hi); (try clear ho0)) | ((with_reducible refine gate_callee (f := 7) rfl ?_); refine goesL_ (some 12) rfl rfl Tryd.func7 (by kernel_rfl) rfl #[.string (⟨#[100, 97, 108, 101, 116, 104, 97, 116, 97, 102, 112, 97, 116, 97, 104]⟩ : ByteArray)] rfl (by (try simp only [List.map_toArray, List.map_cons, List.map_nil]); first | done | rfl | (simp only [List.length_drop, List.length_take]; rfl)) ?_; (with_reducible refine (glyph_Uni.calls k (⟨#[100, 97, 108, 101, 116, 104, 97, 116, 97, 102, 112, 97, 116, 97, 104]⟩ : ByteArray) t169 true _ ?side1 A2.out).mono ?_); (case side1 => exact GW.below (by repeat (first | (with_reducible first | exact HB.out | apply below_alloc | apply pw_below_drewN | apply below_drew1) | exact HB.out)) HG.out); rintro e w22 ⟨v171, rfl, ho0, hb⟩; refine ⟨_, rfl, ?_⟩; have n0_ := Aside0.mk (Kd.R_elder' (by (with_reducible repeat (first | apply Kd.R_alloc | apply Kd.R_drewN | apply Kd.R_drew)); exact HO168.out) (Kd.R_base ho0) hb); have n1_ := Aside0.mk (Kd.R_lower (Kd.R_new' ho0 (Kd.R_lt (by (with_reducible repeat (first | apply Kd.R_alloc | apply Kd.R_drewN | apply Kd.R_drew)); exact HO168.out))) (below_size (by repeat (first | (with_reducible first | exact HB.out | apply below_alloc | apply pw_below_drewN | apply below_drew1) | exact HB.out)))); have n2_ := Aside0.mk (below_step (by repeat (first | (with_reducible first | exact HB.out | apply below_alloc | apply pw_below_drewN | apply below_drew1) | exact HB.out)) hb); clear HO168; clear HB; have HO168 := n0_; have HO172 := n1_; have HB := n2_; clear n0_ n1_ n2_; (try clear hb); (try clear hb2); (try clear hk); (try clear hi); (try clear ho0)) | ((with_reducible refine gate_callee (f := 9) rfl ?_); refine goesL_ (some 16) rfl rfl Tryd.func9 (by kernel_rfl) rfl #[.int .i64 65] rfl (by (try simp only [List.map_toArray, List.map_cons, List.map_nil]); first | done | rfl | (simp only [List.length_drop, List.length_take]; rfl)) ?_; (with_reducible refine (glyph_Back.calls k 65 t173 true _ ?side1 A3.out).mono ?_); (case side1 => exact GW.below (by repeat (first | (with_reducible first | exact HB.out | apply below_alloc | apply pw_below_drewN | apply below_drew1) | exact HB.out)) HG.out); rintro e w23 ⟨rfl, hb⟩; refine ⟨_, rfl, ?_⟩; have n0_ := Aside0.mk (Kd.R_below (by (with_reducible repeat (first | apply Kd.R_alloc | apply Kd.R_drewN | apply Kd.R_drew)); exact HO168.out) hb); have n1_ := Aside0.mk (Kd.R_below (by (with_reducible repeat (first | apply Kd.R_alloc | apply Kd.R_drewN | apply Kd.R_drew)); exact HO172.out) hb); have n2_ := Aside0.mk (below_step (by repeat (first | (with_reducible first | exact HB.out | apply below_alloc | apply pw_below_drewN | apply below_drew1) | exact HB.out)) hb); clear HO168; clear HO172; clear HB; have HO168 := n0_; have HO172 := n1_; have HB := n2_; clear n0_ n1_ n2_; (try clear hb); (try clear hb2); (try clear hk); (try clear hi); obtain ⟨Ao24, co24, eo24⟩ := Kd.R_slice HO168.out; subst eo24; have p175 : 0 ≤ (0 : Int) := (by omega); have q175 : 0 < (t165.length : Int) := of_decide_eq_true (by first | (with_reducible assumption) | assumption); obtain ⟨ad175, e175, hx175_0⟩ := Kd.at_int (Kd.R_reads' HO168.out).2.2 0 p175 q175; cases e175; have qi175 : (0 < t165.length) = True := eq_true (by omega); (try rw [show ((0 : Int)).toNat = 0 from rfl] at hx175_0); (try rw [Addr.add_zero'] at hx175_0); replace p175 := eq_true p175; replace q175 := eq_true q175; obtain ⟨Ao25, co25, eo25⟩ := Kd.R_slice HO172.out; subst eo25; have p176 : 0 ≤ (0 : Int) := (by omega); have q176 : 0 < (t169.length : Int) := of_decide_eq_true (by first | (with_reducible assumption) | assumption); obtain ⟨ad176, e176, hx176_0⟩ := Kd.at_int (Kd.R_reads' HO172.out).2.2 0 p176 q176; cases e176; have qi176 : (0 < t169.length) = True := eq_true (by omega); (try rw [show ((0 : Int)).toNat = 0 from rfl] at hx176_0); (try rw [Addr.add_zero'] at hx176_0); replace p176 := eq_true p176; replace q176 := eq_true q176))
           go_ret
           exact ⟨by first | rfl | (simp [errW_none, errW_some] <;> rfl) | (simp [*, errW_none, errW_some] <;> rfl), by repeat (first | (with_reducible first | exact HB.out | apply below_alloc | apply pw_below_drewN | apply below_drew1) | exact HB.out)⟩
         ·replace c12 := Bool.eq_false_iff.mpr c12
          subst c12
          have H1 : (some false) = some r := by rw [if_neg (show ¬ (false = true) by decide)] at H; exact H
          clear H
          have H := H1
          clear H1
          obtain rfl := Option.some.inj H
          go_enter Tryd.func6, Tryd.ntmps6
          go_wp2_with (first | ((with_reducible refine gate_callee (f := 7) rfl ?_); refine goesL_ (some 8) rfl rfl Tryd.func7 (by kernel_rfl) rfl #[.string (⟨#[65]⟩ : ByteArray)] rfl (by (try simp only [List.map_toArray, List.map_cons, List.map_nil]); first | done | rfl | (simp only [List.length_drop, List.length_take]; rfl)) ?_; (with_reducible refine (glyph_Uni.calls k (⟨#[65]⟩ : ByteArray) t165 true _ ?side1 A1.out).mono ?_); (case side1 => exact GW.below (by repeat (first | (with_reducible first | exact HB.out | apply below_alloc | apply pw_below_drewN | apply below_drew1) | exact HB.out)) HG.out); rintro e w26 ⟨v167, rfl, ho0, hb⟩; refine ⟨_, rfl, ?_⟩; have n0_ := Aside0.mk (Kd.R_lower ho0 (below_size (by repeat (first | (with_reducible first | exact HB.out | apply below_alloc | apply pw_below_drewN | apply below_drew1) | exact HB.out)))); have n1_ := Aside0.mk (below_step (by repeat (first | (with_reducible first | exact HB.out | apply below_alloc | apply pw_below_drewN | apply below_drew1) | exact HB.out)) hb); clear HB; have HO168 := n0_; have HB := n1_; clear n0_ n1_; (try clear hb); (try clear hb2); (try clear hk); (try clear hi); (try clear ho0)) | ((with_reducible refine gate_callee (f := 7) rfl ?_); refine goesL_ (some 12) rfl rfl Tryd.func7 (by kernel_rfl) rfl #[.string (⟨#[100, 97, 108, 101, 116, 104, 97, 116, 97, 102, 112, 97, 116, 97, 104]⟩ : ByteArray)] rfl (by (try simp only [List.map_toArray, List.map_cons, List.map_nil]); first | done | rfl | (simp only [List.length_drop, List.length_take]; rfl)) ?_; (with_reducible refine (glyph_Uni.calls k (⟨#[100, 97, 108, 101, 116, 104, 97, 116, 97, 102, 112, 97, 116, 97, 104]⟩ : ByteArray) t169 true _ ?side1 A2.out).mono ?_); (case side1 => exact GW.below (by repeat (first | (with_reducible first | exact HB.out | apply below_alloc | apply pw_below_drewN | apply below_drew1) | exact HB.out)) HG.out); rintro e w27 ⟨v171, rfl, ho0, hb⟩; refine ⟨_, rfl, ?_⟩; have n0_ := Aside0.mk (Kd.R_elder' (by (with_reducible repeat (first | apply Kd.R_alloc | apply Kd.R_drewN | apply Kd.R_drew)); exact HO168.out) (Kd.R_base ho0) hb); have n1_ := Aside0.mk (Kd.R_lower (Kd.R_new' ho0 (Kd.R_lt (by (with_reducible repeat (first | apply Kd.R_alloc | apply Kd.R_drewN | apply Kd.R_drew)); exact HO168.out))) (below_size (by repeat (first | (with_reducible first | exact HB.out | apply below_alloc | apply pw_below_drewN | apply below_drew1) | exact HB.out)))); have n2_ := Aside0.mk (below_step (by repeat (first | (with_reducible first | exact HB.out | apply below_alloc | apply pw_below_drewN | apply below_drew1) | exact HB.out)) hb); clear HO168; clear HB; have HO168 := n0_; have HO172 := n1_; have HB := n2_; clear n0_ n1_ n2_; (try clear hb); (try clear hb2); (try clear hk); (try clear hi); (try clear ho0)) | ((with_reducible refine gate_callee (f := 9) rfl ?_); refine goesL_ (some 16) rfl rfl Tryd.func9 (by kernel_rfl) rfl #[.int .i64 65] rfl (by (try simp only [List.map_toArray, List.map_cons, List.map_nil]); first | done | rfl | (simp only [List.length_drop, List.length_take]; rfl)) ?_; (with_reducible refine (glyph_Back.calls k 65 t173 false _ ?side1 A3.out).mono ?_); (case side1 => exact GW.below (by repeat (first | (with_reducible first | exact HB.out | apply below_alloc | apply pw_below_drewN | apply below_drew1) | exact HB.out)) HG.out); rintro e w28 ⟨rfl, hb⟩; refine ⟨_, rfl, ?_⟩; have n0_ := Aside0.mk (Kd.R_below (by (with_reducible repeat (first | apply Kd.R_alloc | apply Kd.R_drewN | apply Kd.R_drew)); exact HO168.out) hb); have n1_ := Aside0.mk (Kd.R_below (by (with_reducible repeat (first | apply Kd.R_alloc | apply Kd.R_drewN | apply Kd.R_drew)); exact HO172.out) hb); have n2_ := Aside0.mk (below_step (by repeat (first | (with_reducible first | exact HB.out | apply below_alloc | apply pw_below_drewN | apply below_drew1) | exact HB.out)) hb); clear HO168; clear HO172; clear HB; have HO168 := n0_; have HO172 := n1_; have HB := n2_; clear n0_ n1_ n2_; (try clear hb); (try clear hb2); (try clear hk); (try clear hi); obtain ⟨Ao29, co29, eo29⟩ := Kd.R_slice HO168.out; subst eo29; have p175 : 0 ≤ (0 : Int) := (by omega); have q175 : 0 < (t165.length : Int) := of_decide_eq_true (by first | (with_reducible assumption) | assumption); obtain ⟨ad175, e175, hx175_0⟩ := Kd.at_int (Kd.R_reads' HO168.out).2.2 0 p175 q175; cases e175; have qi175 : (0 < t165.length) = True := eq_true (by omega); (try rw [show ((0 : Int)).toNat = 0 from rfl] at hx175_0); (try rw [Addr.add_zero'] at hx175_0); replace p175 := eq_true p175; replace q175 := eq_true q175; obtain ⟨Ao30, co30, eo30⟩ := Kd.R_slice HO172.out; subst eo30; have p176 : 0 ≤ (0 : Int) := (by omega); have q176 : 0 < (t169.length : Int) := of_decide_eq_true (by first | (with_reducible assumption) | assumption); obtain ⟨ad176, e176, hx176_0⟩ := Kd.at_int (Kd.R_reads' HO172.out).2.2 0 p176 q176; cases e176; have qi176 : (0 < t169.length) = True := eq_true (by omega); (try rw [show ((0 : Int)).toNat = 0 from rfl] at hx176_0); (try rw [Addr.add_zero'] at hx176_0); replace p176 := eq_true p176; replace q176 := eq_true q176))
          go_ret
          exact ⟨by first | rfl | (simp [errW_none, errW_some] <;> rfl) | (simp [*, errW_none, errW_some] <;> rfl), by repeat (first | (with_reducible first | exact HB.out | apply below_alloc | apply pw_below_drewN | apply below_drew1) | exact HB.out)⟩
        ·rw [if_neg c11] at H
         have c11b0 : ((rd t169 0) == 1491) = false := beq_eq_false_iff_ne.mpr c11
         have c11b1 : ((rd t169 0) != 1491) = true := bne_iff_ne.mpr c11
         obtain rfl := Option.some.inj H
         go_enter Tryd.func6, Tryd.ntmps6
         go_wp2_with (first | ((with_reducible refine gate_callee (f := 7) rfl ?_); refine goesL_ (some 8) rfl rfl Tryd.func7 (by kernel_rfl) rfl #[.string (⟨#[65]⟩ : ByteArray)] rfl (by (try simp only [List.map_toArray, List.map_cons, List.map_nil]); first | done | rfl | (simp only [List.length_drop, List.length_take]; rfl)) ?_; (with_reducible refine (glyph_Uni.calls k (⟨#[65]⟩ : ByteArray) t165 true _ ?side1 A1.out).mono ?_); (case side1 => exact GW.below (by repeat (first | (with_reducible first | exact HB.out | apply below_alloc | apply pw_below_drewN | apply below_drew1) | exact HB.out)) HG.out); rintro e w31 ⟨v167, rfl, ho0, hb⟩; refine ⟨_, rfl, ?_⟩; have n0_ := Aside0.mk (Kd.R_lower ho0 (below_size (by repeat (first | (with_reducible first | exact HB.out | apply below_alloc | apply pw_below_drewN | apply below_drew1) | exact HB.out)))); have n1_ := Aside0.mk (below_step (by repeat (first | (with_reducible first | exact HB.out | apply below_alloc | apply pw_below_drewN | apply below_drew1) | exact HB.out)) hb); clear HB; have HO168 := n0_; have HB := n1_; clear n0_ n1_; (try clear hb); (try clear hb2); (try clear hk); (try clear hi); (try clear ho0)) | ((with_reducible refine gate_callee (f := 7) rfl ?_); refine goesL_ (some 12) rfl rfl Tryd.func7 (by kernel_rfl) rfl #[.string (⟨#[100, 97, 108, 101, 116, 104, 97, 116, 97, 102, 112, 97, 116, 97, 104]⟩ : ByteArray)] rfl (by (try simp only [List.map_toArray, List.map_cons, List.map_nil]); first | done | rfl | (simp only [List.length_drop, List.length_take]; rfl)) ?_; (with_reducible refine (glyph_Uni.calls k (⟨#[100, 97, 108, 101, 116, 104, 97, 116, 97, 102, 112, 97, 116, 97, 104]⟩ : ByteArray) t169 true _ ?side1 A2.out).mono ?_); (case side1 => exact GW.below (by repeat (first | (with_reducible first | exact HB.out | apply below_alloc | apply pw_below_drewN | apply below_drew1) | exact HB.out)) HG.out); rintro e w32 ⟨v171, rfl, ho0, hb⟩; refine ⟨_, rfl, ?_⟩; have n0_ := Aside0.mk (Kd.R_elder' (by (with_reducible repeat (first | apply Kd.R_alloc | apply Kd.R_drewN | apply Kd.R_drew)); exact HO168.out) (Kd.R_base ho0) hb); have n1_ := Aside0.mk (Kd.R_lower (Kd.R_new' ho0 (Kd.R_lt (by (with_reducible repeat (first | apply Kd.R_alloc | apply Kd.R_drewN | apply Kd.R_drew)); exact HO168.out))) (below_size (by repeat (first | (with_reducible first | exact HB.out | apply below_alloc | apply pw_below_drewN | apply below_drew1) | exact HB.out)))); have n2_ := Aside0.mk (below_step (by repeat (first | (with_reducible first | exact HB.out | apply below_alloc | apply pw_below_drewN | apply below_drew1) | exact HB.out)) hb); clear HO168; clear HB; have HO168 := n0_; have HO172 := n1_; have HB := n2_; clear n0_ n1_ n2_; (try clear hb); (try clear hb2); (try clear hk); (try clear hi); (try clear ho0)) | ((with_reducible refine gate_callee (f := 9) rfl ?_); refine goesL_ (some 16) rfl rfl Tryd.func9 (by kernel_rfl) rfl #[.int .i64 65] rfl (by (try simp only [List.map_toArray, List.map_cons, List.map_nil]); first | done | rfl | (simp only [List.length_drop, List.length_take]; rfl)) ?_; (with_reducible refine (glyph_Back.calls k 65 t173 t174 _ ?side1 A3.out).mono ?_); (case side1 => exact GW.below (by repeat (first | (with_reducible first | exact HB.out | apply below_alloc | apply pw_below_drewN | apply below_drew1) | exact HB.out)) HG.out); rintro e w33 ⟨rfl, hb⟩; refine ⟨_, rfl, ?_⟩; have n0_ := Aside0.mk (Kd.R_below (by (with_reducible repeat (first | apply Kd.R_alloc | apply Kd.R_drewN | apply Kd.R_drew)); exact HO168.out) hb); have n1_ := Aside0.mk (Kd.R_below (by (with_reducible repeat (first | apply Kd.R_alloc | apply Kd.R_drewN | apply Kd.R_drew)); exact HO172.out) hb); have n2_ := Aside0.mk (below_step (by repeat (first | (with_reducible first | exact HB.out | apply below_alloc | apply pw_below_drewN | apply below_drew1) | exact HB.out)) hb); clear HO168; clear HO172; clear HB; have HO168 := n0_; have HO172 := n1_; have HB := n2_; clear n0_ n1_ n2_; (try clear hb); (try clear hb2); (try clear hk); (try clear hi); obtain ⟨Ao34, co34, eo34⟩ := Kd.R_slice HO168.out; subst eo34; have p175 : 0 ≤ (0 : Int) := (by omega); have q175 : 0 < (t165.length : Int) := of_decide_eq_true (by first | (with_reducible assumption) | assumption); obtain ⟨ad175, e175, hx175_0⟩ := Kd.at_int (Kd.R_reads' HO168.out).2.2 0 p175 q175; cases e175; have qi175 : (0 < t165.length) = True := eq_true (by omega); (try rw [show ((0 : Int)).toNat = 0 from rfl] at hx175_0); (try rw [Addr.add_zero'] at hx175_0); replace p175 := eq_true p175; replace q175 := eq_true q175; obtain ⟨Ao35, co35, eo35⟩ := Kd.R_slice HO172.out; subst eo35; have p176 : 0 ≤ (0 : Int) := (by omega); have q176 : 0 < (t169.length : Int) := of_decide_eq_true (by first | (with_reducible assumption) | assumption); obtain ⟨ad176, e176, hx176_0⟩ := Kd.at_int (Kd.R_reads' HO172.out).2.2 0 p176 q176; cases e176; have qi176 : (0 < t169.length) = True := eq_true (by omega); (try rw [show ((0 : Int)).toNat = 0 from rfl] at hx176_0); (try rw [Addr.add_zero'] at hx176_0); replace p176 := eq_true p176; replace q176 := eq_true q176))
         go_ret
         exact ⟨by first | rfl | (simp [errW_none, errW_some] <;> rfl) | (simp [*, errW_none, errW_some] <;> rfl), by repeat (first | (with_reducible first | exact HB.out | apply below_alloc | apply pw_below_drewN | apply below_drew1) | exact HB.out)⟩
       ·rw [if_neg c10] at H
        exact absurd H (by simp)
      ·rw [if_neg c9] at H
       have c9b0 : ((t169.length : Int) == 2) = false := beq_eq_false_iff_ne.mpr c9
       have c9b1 : ((t169.length : Int) != 2) = true := bne_iff_ne.mpr c9
       obtain rfl := Option.some.inj H
       go_enter Tryd.func6, Tryd.ntmps6
       go_wp2_with (first | ((with_reducible refine gate_callee (f := 7) rfl ?_); refine goesL_ (some 8) rfl rfl Tryd.func7 (by kernel_rfl) rfl #[.string (⟨#[65]⟩ : ByteArray)] rfl (by (try simp only [List.map_toArray, List.map_cons, List.map_nil]); first | done | rfl | (simp only [List.length_drop, List.length_take]; rfl)) ?_; (with_reducible refine (glyph_Uni.calls k (⟨#[65]⟩ : ByteArray) t165 true _ ?side1 A1.out).mono ?_); (case side1 => exact GW.below (by repeat (first | (with_reducible first | exact HB.out | apply below_alloc | apply pw_below_drewN | apply below_drew1) | exact HB.out)) HG.out); rintro e w36 ⟨v167, rfl, ho0, hb⟩; refine ⟨_, rfl, ?_⟩; have n0_ := Aside0.mk (Kd.R_lower ho0 (below_size (by repeat (first | (with_reducible first | exact HB.out | apply below_alloc | apply pw_below_drewN | apply below_drew1) | exact HB.out)))); have n1_ := Aside0.mk (below_step (by repeat (first | (with_reducible first | exact HB.out | apply below_alloc | apply pw_below_drewN | apply below_drew1) | exact HB.out)) hb); clear HB; have HO168 := n0_; have HB := n1_; clear n0_ n1_; (try clear hb); (try clear hb2); (try clear hk); (try clear hi); (try clear ho0)) | ((with_reducible refine gate_callee (f := 7) rfl ?_); refine goesL_ (some 12) rfl rfl Tryd.func7 (by kernel_rfl) rfl #[.string (⟨#[100, 97, 108, 101, 116, 104, 97, 116, 97, 102, 112, 97, 116, 97, 104]⟩ : ByteArray)] rfl (by (try simp only [List.map_toArray, List.map_cons, List.map_nil]); first | done | rfl | (simp only [List.length_drop, List.length_take]; rfl)) ?_; (with_reducible refine (glyph_Uni.calls k (⟨#[100, 97, 108, 101, 116, 104, 97, 116, 97, 102, 112, 97, 116, 97, 104]⟩ : ByteArray) t169 true _ ?side1 A2.out).mono ?_); (case side1 => exact GW.below (by repeat (first | (with_reducible first | exact HB.out | apply below_alloc | apply pw_below_drewN | apply below_drew1) | exact HB.out)) HG.out); rintro e w37 ⟨v171, rfl, ho0, hb⟩; refine ⟨_, rfl, ?_⟩; have n0_ := Aside0.mk (Kd.R_elder' (by (with_reducible repeat (first | apply Kd.R_alloc | apply Kd.R_drewN | apply Kd.R_drew)); exact HO168.out) (Kd.R_base ho0) hb); have n1_ := Aside0.mk (Kd.R_lower (Kd.R_new' ho0 (Kd.R_lt (by (with_reducible repeat (first | apply Kd.R_alloc | apply Kd.R_drewN | apply Kd.R_drew)); exact HO168.out))) (below_size (by repeat (first | (with_reducible first | exact HB.out | apply below_alloc | apply pw_below_drewN | apply below_drew1) | exact HB.out)))); have n2_ := Aside0.mk (below_step (by repeat (first | (with_reducible first | exact HB.out | apply below_alloc | apply pw_below_drewN | apply below_drew1) | exact HB.out)) hb); clear HO168; clear HB; have HO168 := n0_; have HO172 := n1_; have HB := n2_; clear n0_ n1_ n2_; (try clear hb); (try clear hb2); (try clear hk); (try clear hi); (try clear ho0)) | ((with_reducible refine gate_callee (f := 9) rfl ?_); refine goesL_ (some 16) rfl rfl Tryd.func9 (by kernel_rfl) rfl #[.int .i64 65] rfl (by (try simp only [List.map_toArray, List.map_cons, List.map_nil]); first | done | rfl | (simp only [List.length_drop, List.length_take]; rfl)) ?_; (with_reducible refine (glyph_Back.calls k 65 t173 t174 _ ?side1 A3.out).mono ?_); (case side1 => exact GW.below (by repeat (first | (with_reducible first | exact HB.out | apply below_alloc | apply pw_below_drewN | apply below_drew1) | exact HB.out)) HG.out); rintro e w38 ⟨rfl, hb⟩; refine ⟨_, rfl, ?_⟩; have n0_ := Aside0.mk (Kd.R_below (by (with_reducible repeat (first | apply Kd.R_alloc | apply Kd.R_drewN | apply Kd.R_drew)); exact HO168.out) hb); have n1_ := Aside0.mk (Kd.R_below (by (with_reducible repeat (first | apply Kd.R_alloc | apply Kd.R_drewN | apply Kd.R_drew)); exact HO172.out) hb); have n2_ := Aside0.mk (below_step (by repeat (first | (with_reducible first | exact HB.out | apply below_alloc | apply pw_below_drewN | apply below_drew1) | exact HB.out)) hb); clear HO168; clear HO172; clear HB; have HO168 := n0_; have HO172 := n1_; have HB := n2_; clear n0_ n1_ n2_; (try clear hb); (try clear hb2); (try clear hk); (try clear hi); obtain ⟨Ao39, co39, eo39⟩ := Kd.R_slice HO168.out; subst eo39; have p175 : 0 ≤ (0 : Int) := (by omega); have q175 : 0 < (t165.length : Int) := of_decide_eq_true (by first | (with_reducible assumption) | assumption); obtain ⟨ad175, e175, hx175_0⟩ := Kd.at_int (Kd.R_reads' HO168.out).2.2 0 p175 q175; cases e175; have qi175 : (0 < t165.length) = True := eq_true (by omega); (try rw [show ((0 : Int)).toNat = 0 from rfl] at hx175_0); (try rw [Addr.add_zero'] at hx175_0); replace p175 := eq_true p175; replace q175 := eq_true q175; obtain ⟨Ao40, co40, eo40⟩ := Kd.R_slice HO172.out; subst eo40))
       go_ret
       exact ⟨by first | rfl | (simp [errW_none, errW_some] <;> rfl) | (simp [*, errW_none, errW_some] <;> rfl), by repeat (first | (with_reducible first | exact HB.out | apply below_alloc | apply pw_below_drewN | apply below_drew1) | exact HB.out)⟩
     ·replace c8 := Bool.eq_false_iff.mpr c8
      subst c8
      have H1 : (some false) = some r := by rw [if_neg (show ¬ (false = true) by decide)] at H; exact H
      clear H
      have H := H1
      clear H1
      obtain rfl := Option.some.inj H
      go_enter Tryd.func6, Tryd.ntmps6
      go_wp2_with (first | ((with_reducible refine gate_callee (f := 7) rfl ?_); refine goesL_ (some 8) rfl rfl Tryd.func7 (by kernel_rfl) rfl #[.string (⟨#[65]⟩ : ByteArray)] rfl (by (try simp only [List.map_toArray, List.map_cons, List.map_nil]); first | done | rfl | (simp only [List.length_drop, List.length_take]; rfl)) ?_; (with_reducible refine (glyph_Uni.calls k (⟨#[65]⟩ : ByteArray) t165 true _ ?side1 A1.out).mono ?_); (case side1 => exact GW.below (by repeat (first | (with_reducible first | exact HB.out | apply below_alloc | apply pw_below_drewN | apply below_drew1) | exact HB.out)) HG.out); rintro e w41 ⟨v167, rfl, ho0, hb⟩; refine ⟨_, rfl, ?_⟩; have n0_ := Aside0.mk (Kd.R_lower ho0 (below_size (by repeat (first | (with_reducible first | exact HB.out | apply below_alloc | apply pw_below_drewN | apply below_drew1) | exact HB.out)))); have n1_ := Aside0.mk (below_step (by repeat (first | (with_reducible first | exact HB.out | apply below_alloc | apply pw_below_drewN | apply below_drew1) | exact HB.out)) hb); clear HB; have HO168 := n0_; have HB := n1_; clear n0_ n1_; (try clear hb); (try clear hb2); (try clear hk); (try clear hi); (try clear ho0)) | ((with_reducible refine gate_callee (f := 7) rfl ?_); refine goesL_ (some 12) rfl rfl Tryd.func7 (by kernel_rfl) rfl #[.string (⟨#[100, 97, 108, 101, 116, 104, 97, 116, 97, 102, 112, 97, 116, 97, 104]⟩ : ByteArray)] rfl (by (try simp only [List.map_toArray, List.map_cons, List.map_nil]); first | done | rfl | (simp only [List.length_drop, List.length_take]; rfl)) ?_; (with_reducible refine (glyph_Uni.calls k (⟨#[100, 97, 108, 101, 116, 104, 97, 116, 97, 102, 112, 97, 116, 97, 104]⟩ : ByteArray) t169 false _ ?side1 A2.out).mono ?_); (case side1 => exact GW.below (by repeat (first | (with_reducible first | exact HB.out | apply below_alloc | apply pw_below_drewN | apply below_drew1) | exact HB.out)) HG.out); rintro e w42 ⟨v171, rfl, ho0, hb⟩; refine ⟨_, rfl, ?_⟩; have n0_ := Aside0.mk (Kd.R_elder' (by (with_reducible repeat (first | apply Kd.R_alloc | apply Kd.R_drewN | apply Kd.R_drew)); exact HO168.out) (Kd.R_base ho0) hb); have n1_ := Aside0.mk (Kd.R_lower (Kd.R_new' ho0 (Kd.R_lt (by (with_reducible repeat (first | apply Kd.R_alloc | apply Kd.R_drewN | apply Kd.R_drew)); exact HO168.out))) (below_size (by repeat (first | (with_reducible first | exact HB.out | apply below_alloc | apply pw_below_drewN | apply below_drew1) | exact HB.out)))); have n2_ := Aside0.mk (below_step (by repeat (first | (with_reducible first | exact HB.out | apply below_alloc | apply pw_below_drewN | apply below_drew1) | exact HB.out)) hb); clear HO168; clear HB; have HO168 := n0_; have HO172 := n1_; have HB := n2_; clear n0_ n1_ n2_; (try clear hb); (try clear hb2); (try clear hk); (try clear hi); (try clear ho0)) | ((with_reducible refine gate_callee (f := 9) rfl ?_); refine goesL_ (some 16) rfl rfl Tryd.func9 (by kernel_rfl) rfl #[.int .i64 65] rfl (by (try simp only [List.map_toArray, List.map_cons, List.map_nil]); first | done | rfl | (simp only [List.length_drop, List.length_take]; rfl)) ?_; (with_reducible refine (glyph_Back.calls k 65 t173 t174 _ ?side1 A3.out).mono ?_); (case side1 => exact GW.below (by repeat (first | (with_reducible first | exact HB.out | apply below_alloc | apply pw_below_drewN | apply below_drew1) | exact HB.out)) HG.out); rintro e w43 ⟨rfl, hb⟩; refine ⟨_, rfl, ?_⟩; have n0_ := Aside0.mk (Kd.R_below (by (with_reducible repeat (first | apply Kd.R_alloc | apply Kd.R_drewN | apply Kd.R_drew)); exact HO168.out) hb); have n1_ := Aside0.mk (Kd.R_below (by (with_reducible repeat (first | apply Kd.R_alloc | apply Kd.R_drewN | apply Kd.R_drew)); exact HO172.out) hb); have n2_ := Aside0.mk (below_step (by repeat (first | (with_reducible first | exact HB.out | apply below_alloc | apply pw_below_drewN | apply below_drew1) | exact HB.out)) hb); clear HO168; clear HO172; clear HB; have HO168 := n0_; have HO172 := n1_; have HB := n2_; clear n0_ n1_ n2_; (try clear hb); (try clear hb2); (try clear hk); (try clear hi); obtain ⟨Ao44, co44, eo44⟩ := Kd.R_slice HO168.out; subst eo44; have p175 : 0 ≤ (0 : Int) := (by omega); have q175 : 0 < (t165.length : Int) := of_decide_eq_true (by first | (with_reducible assumption) | assumption); obtain ⟨ad175, e175, hx175_0⟩ := Kd.at_int (Kd.R_reads' HO168.out).2.2 0 p175 q175; cases e175; have qi175 : (0 < t165.length) = True := eq_true (by omega); (try rw [show ((0 : Int)).toNat = 0 from rfl] at hx175_0); (try rw [Addr.add_zero'] at hx175_0); replace p175 := eq_true p175; replace q175 := eq_true q175))
      go_ret
      exact ⟨by first | rfl | (simp [errW_none, errW_some] <;> rfl) | (simp [*, errW_none, errW_some] <;> rfl), by repeat (first | (with_reducible first | exact HB.out | apply below_alloc | apply pw_below_drewN | apply below_drew1) | exact HB.out)⟩
    ·rw [if_neg c7] at H
     have c7b0 : ((rd t165 0) == 65) = false := beq_eq_false_iff_ne.mpr c7
     have c7b1 : ((rd t165 0) != 65) = true := bne_iff_ne.mpr c7
     obtain rfl := Option.some.inj H
     go_enter Tryd.func6, Tryd.ntmps6
     go_wp2_with (first | ((with_reducible refine gate_callee (f := 7) rfl ?_); refine goesL_ (some 8) rfl rfl Tryd.func7 (by kernel_rfl) rfl #[.string (⟨#[65]⟩ : ByteArray)] rfl (by (try simp only [List.map_toArray, List.map_cons, List.map_nil]); first | done | rfl | (simp only [List.length_drop, List.length_take]; rfl)) ?_; (with_reducible refine (glyph_Uni.calls k (⟨#[65]⟩ : ByteArray) t165 true _ ?side1 A1.out).mono ?_); (case side1 => exact GW.below (by repeat (first | (with_reducible first | exact HB.out | apply below_alloc | apply pw_below_drewN | apply below_drew1) | exact HB.out)) HG.out); rintro e w45 ⟨v167, rfl, ho0, hb⟩; refine ⟨_, rfl, ?_⟩; have n0_ := Aside0.mk (Kd.R_lower ho0 (below_size (by repeat (first | (with_reducible first | exact HB.out | apply below_alloc | apply pw_below_drewN | apply below_drew1) | exact HB.out)))); have n1_ := Aside0.mk (below_step (by repeat (first | (with_reducible first | exact HB.out | apply below_alloc | apply pw_below_drewN | apply below_drew1) | exact HB.out)) hb); clear HB; have HO168 := n0_; have HB := n1_; clear n0_ n1_; (try clear hb); (try clear hb2); (try clear hk); (try clear hi); (try clear ho0)) | ((with_reducible refine gate_callee (f := 7) rfl ?_); refine goesL_ (some 12) rfl rfl Tryd.func7 (by kernel_rfl) rfl #[.string (⟨#[100, 97, 108, 101, 116, 104, 97, 116, 97, 102, 112, 97, 116, 97, 104]⟩ : ByteArray)] rfl (by (try simp only [List.map_toArray, List.map_cons, List.map_nil]); first | done | rfl | (simp only [List.length_drop, List.length_take]; rfl)) ?_; (with_reducible refine (glyph_Uni.calls k (⟨#[100, 97, 108, 101, 116, 104, 97, 116, 97, 102, 112, 97, 116, 97, 104]⟩ : ByteArray) t169 t170 _ ?side1 A2.out).mono ?_); (case side1 => exact GW.below (by repeat (first | (with_reducible first | exact HB.out | apply below_alloc | apply pw_below_drewN | apply below_drew1) | exact HB.out)) HG.out); rintro e w46 ⟨v171, rfl, ho0, hb⟩; refine ⟨_, rfl, ?_⟩; have n0_ := Aside0.mk (Kd.R_elder' (by (with_reducible repeat (first | apply Kd.R_alloc | apply Kd.R_drewN | apply Kd.R_drew)); exact HO168.out) (Kd.R_base ho0) hb); have n1_ := Aside0.mk (Kd.R_lower (Kd.R_new' ho0 (Kd.R_lt (by (with_reducible repeat (first | apply Kd.R_alloc | apply Kd.R_drewN | apply Kd.R_drew)); exact HO168.out))) (below_size (by repeat (first | (with_reducible first | exact HB.out | apply below_alloc | apply pw_below_drewN | apply below_drew1) | exact HB.out)))); have n2_ := Aside0.mk (below_step (by repeat (first | (with_reducible first | exact HB.out | apply below_alloc | apply pw_below_drewN | apply below_drew1) | exact HB.out)) hb); clear HO168; clear HB; have HO168 := n0_; have HO172 := n1_; have HB := n2_; clear n0_ n1_ n2_; (try clear hb); (try clear hb2); (try clear hk); (try clear hi); (try clear ho0)) | ((with_reducible refine gate_callee (f := 9) rfl ?_); refine goesL_ (some 16) rfl rfl Tryd.func9 (by kernel_rfl) rfl #[.int .i64 65] rfl (by (try simp only [List.map_toArray, List.map_cons, List.map_nil]); first | done | rfl | (simp only [List.length_drop, List.length_take]; rfl)) ?_; (with_reducible refine (glyph_Back.calls k 65 t173 t174 _ ?side1 A3.out).mono ?_); (case side1 => exact GW.below (by repeat (first | (with_reducible first | exact HB.out | apply below_alloc | apply pw_below_drewN | apply below_drew1) | exact HB.out)) HG.out); rintro e w47 ⟨rfl, hb⟩; refine ⟨_, rfl, ?_⟩; have n0_ := Aside0.mk (Kd.R_below (by (with_reducible repeat (first | apply Kd.R_alloc | apply Kd.R_drewN | apply Kd.R_drew)); exact HO168.out) hb); have n1_ := Aside0.mk (Kd.R_below (by (with_reducible repeat (first | apply Kd.R_alloc | apply Kd.R_drewN | apply Kd.R_drew)); exact HO172.out) hb); have n2_ := Aside0.mk (below_step (by repeat (first | (with_reducible first | exact HB.out | apply below_alloc | apply pw_below_drewN | apply below_drew1) | exact HB.out)) hb); clear HO168; clear HO172; clear HB; have HO168 := n0_; have HO172 := n1_; have HB := n2_; clear n0_ n1_ n2_; (try clear hb); (try clear hb2); (try clear hk); (try clear hi); obtain ⟨Ao48, co48, eo48⟩ := Kd.R_slice HO168.out; subst eo48; have p175 : 0 ≤ (0 : Int) := (by omega); have q175 : 0 < (t165.length : Int) := of_decide_eq_true (by first | (with_reducible assumption) | assumption); obtain ⟨ad175, e175, hx175_0⟩ := Kd.at_int (Kd.R_reads' HO168.out).2.2 0 p175 q175; cases e175; have qi175 : (0 < t165.length) = True := eq_true (by omega); (try rw [show ((0 : Int)).toNat = 0 from rfl] at hx175_0); (try rw [Addr.add_zero'] at hx175_0); replace p175 := eq_true p175; replace q175 := eq_true q175))
     go_ret
     exact ⟨by first | rfl | (simp [errW_none, errW_some] <;> rfl) | (simp [*, errW_none, errW_some] <;> rfl), by repeat (first | (with_reducible first | exact HB.out | apply below_alloc | apply pw_below_drewN | apply below_drew1) | exact HB.out)⟩
   ·rw [if_neg c6] at H
    exact absurd H (by simp)
  ·rw [if_neg c5] at H
   have c5b0 : ((t165.length : Int) == 1) = false := beq_eq_false_iff_ne.mpr c5
   have c5b1 : ((t165.length : Int) != 1) = true := bne_iff_ne.mpr c5
   obtain rfl := Option.some.inj H
   go_enter Tryd.func6, Tryd.ntmps6
   go_wp2_with (first | ((with_reducible refine gate_callee (f := 7) rfl ?_); refine goesL_ (some 8) rfl rfl Tryd.func7 (by kernel_rfl) rfl #[.string (⟨#[65]⟩ : ByteArray)] rfl (by (try simp only [List.map_toArray, List.map_cons, List.map_nil]); first | done | rfl | (simp only [List.length_drop, List.length_take]; rfl)) ?_; (with_reducible refine (glyph_Uni.calls k (⟨#[65]⟩ : ByteArray) t165 true _ ?side1 A1.out).mono ?_); (case side1 => exact GW.below (by repeat (first | (with_reducible first | exact HB.out | apply below_alloc | apply pw_below_drewN | apply below_drew1) | exact HB.out)) HG.out); rintro e w49 ⟨v167, rfl, ho0, hb⟩; refine ⟨_, rfl, ?_⟩; have n0_ := Aside0.mk (Kd.R_lower ho0 (below_size (by repeat (first | (with_reducible first | exact HB.out | apply below_alloc | apply pw_below_drewN | apply below_drew1) | exact HB.out)))); have n1_ := Aside0.mk (below_step (by repeat (first | (with_reducible first | exact HB.out | apply below_alloc | apply pw_below_drewN | apply below_drew1) | exact HB.out)) hb); clear HB; have HO168 := n0_; have HB := n1_; clear n0_ n1_; (try clear hb); (try clear hb2); (try clear hk); (try clear hi); (try clear ho0)) | ((with_reducible refine gate_callee (f := 7) rfl ?_); refine goesL_ (some 12) rfl rfl Tryd.func7 (by kernel_rfl) rfl #[.string (⟨#[100, 97, 108, 101, 116, 104, 97, 116, 97, 102, 112, 97, 116, 97, 104]⟩ : ByteArray)] rfl (by (try simp only [List.map_toArray, List.map_cons, List.map_nil]); first | done | rfl | (simp only [List.length_drop, List.length_take]; rfl)) ?_; (with_reducible refine (glyph_Uni.calls k (⟨#[100, 97, 108, 101, 116, 104, 97, 116, 97, 102, 112, 97, 116, 97, 104]⟩ : ByteArray) t169 t170 _ ?side1 A2.out).mono ?_); (case side1 => exact GW.below (by repeat (first | (with_reducible first | exact HB.out | apply below_alloc | apply pw_below_drewN | apply below_drew1) | exact HB.out)) HG.out); rintro e w50 ⟨v171, rfl, ho0, hb⟩; refine ⟨_, rfl, ?_⟩; have n0_ := Aside0.mk (Kd.R_elder' (by (with_reducible repeat (first | apply Kd.R_alloc | apply Kd.R_drewN | apply Kd.R_drew)); exact HO168.out) (Kd.R_base ho0) hb); have n1_ := Aside0.mk (Kd.R_lower (Kd.R_new' ho0 (Kd.R_lt (by (with_reducible repeat (first | apply Kd.R_alloc | apply Kd.R_drewN | apply Kd.R_drew)); exact HO168.out))) (below_size (by repeat (first | (with_reducible first | exact HB.out | apply below_alloc | apply pw_below_drewN | apply below_drew1) | exact HB.out)))); have n2_ := Aside0.mk (below_step (by repeat (first | (with_reducible first | exact HB.out | apply below_alloc | apply pw_below_drewN | apply below_drew1) | exact HB.out)) hb); clear HO168; clear HB; have HO168 := n0_; have HO172 := n1_; have HB := n2_; clear n0_ n1_ n2_; (try clear hb); (try clear hb2); (try clear hk); (try clear hi); (try clear ho0)) | ((with_reducible refine gate_callee (f := 9) rfl ?_); refine goesL_ (some 16) rfl rfl Tryd.func9 (by kernel_rfl) rfl #[.int .i64 65] rfl (by (try simp only [List.map_toArray, List.map_cons, List.map_nil]); first | done | rfl | (simp only [List.length_drop, List.length_take]; rfl)) ?_; (with_reducible refine (glyph_Back.calls k 65 t173 t174 _ ?side1 A3.out).mono ?_); (case side1 => exact GW.below (by repeat (first | (with_reducible first | exact HB.out | apply below_alloc | apply pw_below_drewN | apply below_drew1) | exact HB.out)) HG.out); rintro e w51 ⟨rfl, hb⟩; refine ⟨_, rfl, ?_⟩; have n0_ := Aside0.mk (Kd.R_below (by (with_reducible repeat (first | apply Kd.R_alloc | apply Kd.R_drewN | apply Kd.R_drew)); exact HO168.out) hb); have n1_ := Aside0.mk (Kd.R_below (by (with_reducible repeat (first | apply Kd.R_alloc | apply Kd.R_drewN | apply Kd.R_drew)); exact HO172.out) hb); have n2_ := Aside0.mk (below_step (by repeat (first | (with_reducible first | exact HB.out | apply below_alloc | apply pw_below_drewN | apply below_drew1) | exact HB.out)) hb); clear HO168; clear HO172; clear HB; have HO168 := n0_; have HO172 := n1_; have HB := n2_; clear n0_ n1_ n2_; (try clear hb); (try clear hb2); (try clear hk); (try clear hi); obtain ⟨Ao52, co52, eo52⟩ := Kd.R_slice HO168.out; subst eo52))
   go_ret
   exact ⟨by first | rfl | (simp [errW_none, errW_some] <;> rfl) | (simp [*, errW_none, errW_some] <;> rfl), by repeat (first | (with_reducible first | exact HB.out | apply below_alloc | apply pw_below_drewN | apply below_drew1) | exact HB.out)⟩
 ·replace c4 := Bool.eq_false_iff.mpr c4
  subst c4
  have H1 : (some false) = some r := by rw [if_neg (show ¬ (false = true) by decide)] at H; exact H
  clear H
  have H := H1
  clear H1
  obtain rfl := Option.some.inj H
  go_enter Tryd.func6, Tryd.ntmps6
  go_wp2_with (first | ((with_reducible refine gate_callee (f := 7) rfl ?_); refine goesL_ (some 8) rfl rfl Tryd.func7 (by kernel_rfl) rfl #[.string (⟨#[65]⟩ : ByteArray)] rfl (by (try simp only [List.map_toArray, List.map_cons, List.map_nil]); first | done | rfl | (simp only [List.length_drop, List.length_take]; rfl)) ?_; (with_reducible refine (glyph_Uni.calls k (⟨#[65]⟩ : ByteArray) t165 false _ ?side1 A1.out).mono ?_); (case side1 => exact GW.below (by repeat (first | (with_reducible first | exact HB.out | apply below_alloc | apply pw_below_drewN | apply below_drew1) | exact HB.out)) HG.out); rintro e w53 ⟨v167, rfl, ho0, hb⟩; refine ⟨_, rfl, ?_⟩; have n0_ := Aside0.mk (Kd.R_lower ho0 (below_size (by repeat (first | (with_reducible first | exact HB.out | apply below_alloc | apply pw_below_drewN | apply below_drew1) | exact HB.out)))); have n1_ := Aside0.mk (below_step (by repeat (first | (with_reducible first | exact HB.out | apply below_alloc | apply pw_below_drewN | apply below_drew1) | exact HB.out)) hb); clear HB; have HO168 := n0_; have HB := n1_; clear n0_ n1_; (try clear hb); (try clear hb2); (try clear hk); (try clear hi); (try clear ho0)) | ((with_reducible refine gate_callee (f := 7) rfl ?_); refine goesL_ (some 12) rfl rfl Tryd.func7 (by kernel_rfl) rfl #[.string (⟨#[100, 97, 108, 101, 116, 104, 97, 116, 97, 102, 112, 97, 116, 97, 104]⟩ : ByteArray)] rfl (by (try simp only [List.map_toArray, List.map_cons, List.map_nil]); first | done | rfl | (simp only [List.length_drop, List.length_take]; rfl)) ?_; (with_reducible refine (glyph_Uni.calls k (⟨#[100, 97, 108, 101, 116, 104, 97, 116, 97, 102, 112, 97, 116, 97, 104]⟩ : ByteArray) t169 t170 _ ?side1 A2.out).mono ?_); (case side1 => exact GW.below (by repeat (first | (with_reducible first | exact HB.out | apply below_alloc | apply pw_below_drewN | apply below_drew1) | exact HB.out)) HG.out); rintro e w54 ⟨v171, rfl, ho0, hb⟩; refine ⟨_, rfl, ?_⟩; have n0_ := Aside0.mk (Kd.R_elder' (by (with_reducible repeat (first | apply Kd.R_alloc | apply Kd.R_drewN | apply Kd.R_drew)); exact HO168.out) (Kd.R_base ho0) hb); have n1_ := Aside0.mk (Kd.R_lower (Kd.R_new' ho0 (Kd.R_lt (by (with_reducible repeat (first | apply Kd.R_alloc | apply Kd.R_drewN | apply Kd.R_drew)); exact HO168.out))) (below_size (by repeat (first | (with_reducible first | exact HB.out | apply below_alloc | apply pw_below_drewN | apply below_drew1) | exact HB.out)))); have n2_ := Aside0.mk (below_step (by repeat (first | (with_reducible first | exact HB.out | apply below_alloc | apply pw_below_drewN | apply below_drew1) | exact HB.out)) hb); clear HO168; clear HB; have HO168 := n0_; have HO172 := n1_; have HB := n2_; clear n0_ n1_ n2_; (try clear hb); (try clear hb2); (try clear hk); (try clear hi); (try clear ho0)) | ((with_reducible refine gate_callee (f := 9) rfl ?_); refine goesL_ (some 16) rfl rfl Tryd.func9 (by kernel_rfl) rfl #[.int .i64 65] rfl (by (try simp only [List.map_toArray, List.map_cons, List.map_nil]); first | done | rfl | (simp only [List.length_drop, List.length_take]; rfl)) ?_; (with_reducible refine (glyph_Back.calls k 65 t173 t174 _ ?side1 A3.out).mono ?_); (case side1 => exact GW.below (by repeat (first | (with_reducible first | exact HB.out | apply below_alloc | apply pw_below_drewN | apply below_drew1) | exact HB.out)) HG.out); rintro e w55 ⟨rfl, hb⟩; refine ⟨_, rfl, ?_⟩; have n0_ := Aside0.mk (Kd.R_below (by (with_reducible repeat (first | apply Kd.R_alloc | apply Kd.R_drewN | apply Kd.R_drew)); exact HO168.out) hb); have n1_ := Aside0.mk (Kd.R_below (by (with_reducible repeat (first | apply Kd.R_alloc | apply Kd.R_drewN | apply Kd.R_drew)); exact HO172.out) hb); have n2_ := Aside0.mk (below_step (by repeat (first | (with_reducible first | exact HB.out | apply below_alloc | apply pw_below_drewN | apply below_drew1) | exact HB.out)) hb); clear HO168; clear HO172; clear HB; have HO168 := n0_; have HO172 := n1_; have HB := n2_; clear n0_ n1_ n2_; (try clear hb); (try clear hb2); (try clear hk); (try clear hi)))
  go_ret
  exact ⟨by first | rfl | (simp [errW_none, errW_some] <;> rfl) | (simp [*, errW_none, errW_some] <;> rfl), by repeat (first | (with_reducible first | exact HB.out | apply below_alloc | apply pw_below_drewN | apply below_drew1) | exact HB.out)⟩
end Go.Proofs.YtdbadfcekomomaaDoor.M
end
section
/- Laid by this session's program hbprint.py out of the translation: the function hornbook/hornbookref14.Uni and its contract. -/
namespace Go.Proofs.YtdbadfcekomomaaDoor.M
open Go.RowKit Go.Proofs.YtdbadfcekomomaaDoorW.PrintWords Go.Proofs.YtdbadfcekomomaaDoorW.PrintLast Go.Proofs.YtdbadfcekomomaaDoorW.PrintMore
attribute [local go_sem] max2_int min2_int max_two min_two max_three min_three max_four min_four
set_option linter.unusedVariables false
set_option linter.unusedSimpArgs false
mutual
def hornbookref14_Uni.l0 : Nat → ByteArray → ByteArray → Int → Int → Int → Option (List Int × Bool)
 | 0, _, _, _, _, _ => none
 | k + 1, x0, x4, x5, x6, x7 => if x7 < (x4.size : Int) then (if 0 ≤ x7 then (if (bt x4 x7) = 61 then (hornbookref14_Uni.j1 k x0 x4 x5 x7 x7) else (hornbookref14_Uni.j1 k x0 x4 x5 x6 x7)) else (none)) else (some (([] : List Int), false))
def hornbookref14_Uni.j1 : Nat → ByteArray → ByteArray → Int → Int → Int → Option (List Int × Bool)
 | 0, _, _, _, _, _ => none
 | k + 1, x0, x4, x5, x6, x7 => if 0 ≤ x7 then (if x7 < (x4.size : Int) then (if (bt x4 x7) = 32 then (if 0 ≤ x5 then (if x5 ≤ x6 then (if x6 ≤ (x4.size : Int) then (if (x4.extract (x5 : Int).toNat (x6 : Int).toNat).toList = x0.toList then (if 0 ≤ (wrap64 (x6 + 1)) then (if (wrap64 (x6 + 1)) ≤ x7 then (if x7 ≤ (x4.size : Int) then ((hornbookref14_values.f k (x4.extract ((wrap64 (x6 + 1)) : Int).toNat (x7 : Int).toNat)).bind fun t189 => (some (t189, true))) else (none)) else (none)) else (none)) else (hornbookref14_Uni.l0 k x0 x4 (wrap64 (x7 + 1)) x6 (wrap64 (x7 + 1)))) else (none)) else (none)) else (none)) else (hornbookref14_Uni.l0 k x0 x4 x5 x6 (wrap64 (x7 + 1)))) else (none)) else (none)
end
def hornbookref14_Uni.f (k : Nat) (a0 : ByteArray) : Option (List Int × Bool) := (hornbookref14_list.f).bind fun t188 => (hornbookref14_Uni.l0 k a0 t188 0 0 0)
set_option maxHeartbeats 8000000 in
set_option maxRecDepth 100000 in
theorem hornbookref14_Uni.calls (k : Nat) (a0 : ByteArray) (r1 : List Int) (r2 : Bool) (w : World) (h : hornbookref14_Uni.f k a0 = some (r1, r2)) :
  Calls Tryd.prog 8 #[.string a0] w fun e w' => ∃ v0_ : Value, e = .returned (.tuple #[v0_, .bool r2]) ∧ Kd.R (Kd.int .i64) 3 w' w.heap.size (fun _ => True) v0_ r1 ∧ Below w.heap.size w w' := by
 have HB := Aside0.mk (Below.refl w.heap.size w)
 have H : ((hornbookref14_list.f).bind fun t188 => (hornbookref14_Uni.l0 k a0 t188 0 0 0)) = some (r1, r2) := h
 clear h
 replace H := Option.bind_eq_some_iff.mp H
 obtain ⟨t188, A20, H⟩ := H
 replace H : (hornbookref14_Uni.l0 k a0 t188 0 0 0) = some (r1, r2) := H
 have A2 := Aside0.mk A20
 clear A20
 have H' := Aside0.mk H
 clear H
 go_enter Tryd.func8, Tryd.ntmps8
 go_wp2_with (first | ((with_reducible refine gate_callee (f := 21) rfl ?_); refine goesL_ (some 8) rfl rfl Tryd.func21 (by kernel_rfl) rfl #[] rfl (by (try simp only [List.map_toArray, List.map_cons, List.map_nil]); first | done | rfl | (simp only [List.length_drop, List.length_take]; rfl)) ?_; (with_reducible refine (hornbookref14_list.calls  t188 _ A2.out).mono ?_); rintro e w' ⟨rfl, ⟨nd, rfl⟩⟩; refine ⟨_, rfl, ?_⟩))
 go_loopg [5, 6, 7] k (fun kq v5 v6 v7 w' => ∃ (x5_1 : Int) (x6_1 : Int) (x7_1 : Int), v5 = .int .i64 x5_1 ∧ v6 = .int .i64 x6_1 ∧ v7 = .int .i64 x7_1 ∧ Aside0 (hornbookref14_Uni.l0 kq a0 t188 x5_1 x6_1 x7_1 = some (r1, r2)) ∧ Aside0 (kq ≤ k) ∧ Aside0 (Below w.heap.size w w'))
 case atStart => exact ⟨(0), (0), (0), (by first | rfl | (simp; done) | (simp [*]; done)), (by first | rfl | (simp; done) | (simp [*]; done)), (by first | rfl | (simp; done) | (simp [*]; done)), H', ⟨Nat.le_refl _⟩, ⟨by repeat (first | (with_reducible first | exact HB.out | apply below_alloc | apply pw_below_drewN | apply below_drew1) | exact HB.out)⟩⟩
 case round =>
  clear H'
  try clear c2
  try clear p2
  obtain ⟨x5_1, x6_1, x7_1, rfl, rfl, rfl, HA, HK1, HB⟩ := hrel
  cases gk with
  | zero => exact absurd HA.out (by simp [hornbookref14_Uni.l0])
  | succ k1 =>
   have H := HA.out
   clear HA
   simp only [hornbookref14_Uni.l0] at H
   by_cases c3 : x7_1 < (t188.size : Int)
   ·rw [if_pos c3] at H
    have c3b0 : decide (x7_1 < (t188.size : Int)) = true := decide_eq_true c3
    clear c3
    by_cases c4 : 0 ≤ x7_1
    ·rw [if_pos c4] at H
     have c4b0 : decide (0 ≤ x7_1) = true := decide_eq_true c4
     clear c4
     have HC6 := Aside0.mk H
     clear H
     have p5 : 0 ≤ (x7_1 : Int) := of_decide_eq_true (by first | (with_reducible assumption) | assumption)
     have q5 : x7_1 < (t188.size : Int) := of_decide_eq_true (by first | (with_reducible assumption) | assumption)
     have hx5 := bt_at t188 x7_1
     replace p5 := eq_true p5
     replace q5 := eq_true q5
     go_upto_if 18 with (fail)
     go_cut [6] (fun v6 wc => ∃ (kq : Nat) (x6_5 : Int), v6 = .int .i64 x6_5 ∧ Aside0 (hornbookref14_Uni.j1 kq a0 t188 x5_1 x6_5 x7_1 = some (r1, r2)) ∧ Aside0 (kq ≤ k1) ∧ Aside0 (Below w.heap.size w wc))
     case first =>
      have H := HC6.out
      clear HC6
      by_cases c7 : (bt t188 x7_1) = 61
      ·rw [if_pos c7] at H
       have c7b0 : ((bt t188 x7_1) == 61) = true := beq_iff_eq.mpr c7
       have c7b1 : ((bt t188 x7_1) != 61) = false := bne_eq_false_iff_eq.mpr c7
       clear c7
       (first | rw [c7b0] | (simp only [i64_w, i32_w]; rw [c7b0]) | skip)
       have H' := Aside0.mk H
       clear H
       go_wp2
       go_meet
       case rel => exact ⟨_, (x7_1), (by first | rfl | (simp; done) | (simp [*]; done)), H', ⟨by have := HK1.out; first | omega | exact Nat.le_refl _⟩, ⟨by repeat (first | (with_reducible first | exact HB.out | apply below_alloc | apply pw_below_drewN | apply below_drew1) | exact HB.out)⟩⟩
      ·rw [if_neg c7] at H
       have c7b0 : ((bt t188 x7_1) == 61) = false := beq_eq_false_iff_ne.mpr c7
       have c7b1 : ((bt t188 x7_1) != 61) = true := bne_iff_ne.mpr c7
       (first | rw [c7b0] | (simp only [i64_w, i32_w]; rw [c7b0]) | skip)
       have H' := Aside0.mk H
       clear H
       go_wp2
       go_meet
       case rel => exact ⟨_, (x6_1), (by first | rfl | (simp; done) | (simp [*]; done)), H', ⟨by have := HK1.out; first | omega | exact Nat.le_refl _⟩, ⟨by repeat (first | (with_reducible first | exact HB.out | apply below_alloc | apply pw_below_drewN | apply below_drew1) | exact HB.out)⟩⟩
     case rest =>
      clear HC6
      try clear c2
      try clear p2
      try clear c3
      try clear c3b0
      try clear c4
      try clear c4b0
      try clear p5
      try clear q5
      try clear hx5
      try clear c7
      try clear c7b0
      try clear c7b1
      try clear p2
      try clear p5
      try clear q5
      obtain ⟨kq, x6_5, rfl, HA, HJ5, HB⟩ := hcut
      cases kq with
      | zero => exact absurd HA.out (by simp [hornbookref14_Uni.j1])
      | succ kj5 =>
       have H := HA.out
       clear HA
       simp only [hornbookref14_Uni.j1] at H
       by_cases c8 : 0 ≤ x7_1
       ·rw [if_pos c8] at H
        have c8b0 : decide (0 ≤ x7_1) = true := decide_eq_true c8
        clear c8
        by_cases c9 : x7_1 < (t188.size : Int)
        ·rw [if_pos c9] at H
         have c9b0 : decide (x7_1 < (t188.size : Int)) = true := decide_eq_true c9
         clear c9
         by_cases c11 : (bt t188 x7_1) = 32
         ·rw [if_pos c11] at H
          have c11b0 : ((bt t188 x7_1) == 32) = true := beq_iff_eq.mpr c11
          have c11b1 : ((bt t188 x7_1) != 32) = false := bne_eq_false_iff_eq.mpr c11
          clear c11
          by_cases c12 : 0 ≤ x5_1
          ·rw [if_pos c12] at H
           have c12b0 := eq_true c12
           have c12b1 : decide (0 ≤ x5_1) = true := decide_eq_true c12
           clear c12
           by_cases c13 : x5_1 ≤ x6_5
           ·rw [if_pos c13] at H
            have c13b0 := eq_true c13
            have c13b1 : decide (x5_1 ≤ x6_5) = true := decide_eq_true c13
            clear c13
            by_cases c14 : x6_5 ≤ (t188.size : Int)
            ·rw [if_pos c14] at H
             have c14b0 := eq_true c14
             have c14b1 : decide (x6_5 ≤ (t188.size : Int)) = true := decide_eq_true c14
             clear c14
             by_cases c15 : (t188.extract (x5_1 : Int).toNat (x6_5 : Int).toNat).toList = a0.toList
             ·rw [if_pos c15] at H
              have c15b0 : ((t188.extract (x5_1 : Int).toNat (x6_5 : Int).toNat).toList == a0.toList) = true := beq_iff_eq.mpr c15
              have c15b1 : ((t188.extract (x5_1 : Int).toNat (x6_5 : Int).toNat).toList != a0.toList) = false := bne_eq_false_iff_eq.mpr c15
              clear c15
              obtain ⟨ji16, hji16⟩ : ∃ j_ : Int, (wrap64 (x6_5 + 1)) = j_ := ⟨_, rfl⟩
              replace H : (if 0 ≤ (ji16) then (if (ji16) ≤ x7_1 then (if x7_1 ≤ (t188.size : Int) then ((hornbookref14_values.f kj5 (t188.extract ((ji16) : Int).toNat (x7_1 : Int).toNat)).bind fun t189 => (some (t189, true))) else (none)) else (none)) else (none)) = some (r1, r2) := by first | (rw [hji16] at H; exact H) | (simp only [hji16] at H ⊢; exact H)
              have hji16w : (IntKind.i64.wrap (x6_5 + 1)) = ji16 := (i64_w _).trans hji16
              by_cases c17 : 0 ≤ (ji16)
              ·rw [if_pos c17] at H
               have c17b0 := eq_true c17
               have c17b1 : decide (0 ≤ (ji16)) = true := decide_eq_true c17
               clear c17
               by_cases c18 : (ji16) ≤ x7_1
               ·rw [if_pos c18] at H
                have c18b0 := eq_true c18
                have c18b1 : decide ((ji16) ≤ x7_1) = true := decide_eq_true c18
                clear c18
                by_cases c19 : x7_1 ≤ (t188.size : Int)
                ·rw [if_pos c19] at H
                 have c19b0 := eq_true c19
                 have c19b1 : decide (x7_1 ≤ (t188.size : Int)) = true := decide_eq_true c19
                 clear c19
                 replace H := Option.bind_eq_some_iff.mp H
                 obtain ⟨t189, A200, H⟩ := H
                 replace H : (some (t189, true)) = some (r1, r2) := H
                 have A20 := Aside0.mk A200
                 clear A200
                 simp only [Option.some.injEq, Prod.mk.injEq] at H
                 obtain ⟨rfl, rfl⟩ := H
                 have p10 : 0 ≤ (x7_1 : Int) := of_decide_eq_true (by first | (with_reducible assumption) | assumption)
                 have q10 : x7_1 < (t188.size : Int) := of_decide_eq_true (by first | (with_reducible assumption) | assumption)
                 have hx10 := bt_at t188 x7_1
                 replace p10 := eq_true p10
                 replace q10 := eq_true q10
                 go_wp2_with (first | ((with_reducible refine gate_callee (f := 22) rfl ?_); refine goesL_ (some 35) rfl rfl Tryd.func22 (by kernel_rfl) rfl #[.string (t188.extract ((ji16) : Int).toNat (x7_1 : Int).toNat)] rfl (by (try simp only [List.map_toArray, List.map_cons, List.map_nil]); first | done | (simp only [hji16]; rfl) | rfl | (simp only [List.length_drop, List.length_take]; rfl)) ?_; (with_reducible refine (hornbookref14_values.calls kj5 (t188.extract ((ji16) : Int).toNat (x7_1 : Int).toNat) t189 _ A20.out).mono ?_); rintro e w21 ⟨v190, rfl, ho0, hb⟩; refine ⟨_, rfl, ?_⟩; have n0_ := Aside0.mk (Kd.R_lower ho0 (below_size (by repeat (first | (with_reducible first | exact HB.out | apply below_alloc | apply pw_below_drewN | apply below_drew1) | exact HB.out)))); have n1_ := Aside0.mk (below_step (by repeat (first | (with_reducible first | exact HB.out | apply below_alloc | apply pw_below_drewN | apply below_drew1) | exact HB.out)) hb); clear HB; have HO191 := n0_; have HB := n1_; clear n0_ n1_; (try clear hb); (try clear hb2); (try clear hk); (try clear hi); (try clear ho0)))
                 go_ret2
                 exact ⟨_, by first | rfl | (simp [errW_none, errW_some] <;> rfl) | (simp only [← hji16]; first | rfl | (simp [errW_none, errW_some] <;> rfl)) | (simp [*, errW_none, errW_some] <;> rfl), by (with_reducible repeat (first | apply Kd.R_alloc | apply Kd.R_drewN | apply Kd.R_drew)); exact HO191.out, by repeat (first | (with_reducible first | exact HB.out | apply below_alloc | apply pw_below_drewN | apply below_drew1) | exact HB.out)⟩
                ·rw [if_neg c19] at H
                 exact absurd H (by simp)
               ·rw [if_neg c18] at H
                exact absurd H (by simp)
              ·rw [if_neg c17] at H
               exact absurd H (by simp)
             ·rw [if_neg c15] at H
              have c15b0 : ((t188.extract (x5_1 : Int).toNat (x6_5 : Int).toNat).toList == a0.toList) = false := beq_eq_false_iff_ne.mpr c15
              have c15b1 : ((t188.extract (x5_1 : Int).toNat (x6_5 : Int).toNat).toList != a0.toList) = true := bne_iff_ne.mpr c15
              have H' := Aside0.mk H
              clear H
              have p10 : 0 ≤ (x7_1 : Int) := of_decide_eq_true (by first | (with_reducible assumption) | assumption)
              have q10 : x7_1 < (t188.size : Int) := of_decide_eq_true (by first | (with_reducible assumption) | assumption)
              have hx10 := bt_at t188 x7_1
              replace p10 := eq_true p10
              replace q10 := eq_true q10
              go_wp2
              go_roundg kj5
              case measure => have := HK1.out; have := HJ5.out; omega
              case rel => exact ⟨(wrap64 (x7_1 + 1)), (x6_5), (wrap64 (x7_1 + 1)), (by first | rfl | (simp; done) | (simp [*]; done)), (by first | rfl | (simp; done) | (simp [*]; done)), (by first | rfl | (simp; done) | (simp [*]; done)), H', ⟨by have := HK1.out; have := HJ5.out; omega⟩, ⟨by repeat (first | (with_reducible first | exact HB.out | apply below_alloc | apply pw_below_drewN | apply below_drew1) | exact HB.out)⟩⟩
            ·rw [if_neg c14] at H
             exact absurd H (by simp)
           ·rw [if_neg c13] at H
            exact absurd H (by simp)
          ·rw [if_neg c12] at H
           exact absurd H (by simp)
         ·rw [if_neg c11] at H
          have c11b0 : ((bt t188 x7_1) == 32) = false := beq_eq_false_iff_ne.mpr c11
          have c11b1 : ((bt t188 x7_1) != 32) = true := bne_iff_ne.mpr c11
          have H' := Aside0.mk H
          clear H
          have p10 : 0 ≤ (x7_1 : Int) := of_decide_eq_true (by first | (with_reducible assumption) | assumption)
          have q10 : x7_1 < (t188.size : Int) := of_decide_eq_true (by first | (with_reducible assumption) | assumption)
          have hx10 := bt_at t188 x7_1
          replace p10 := eq_true p10
          replace q10 := eq_true q10
          go_wp2
          go_roundg kj5
          case measure => have := HK1.out; have := HJ5.out; omega
          case rel => exact ⟨(x5_1), (x6_5), (wrap64 (x7_1 + 1)), (by first | rfl | (simp; done) | (simp [*]; done)), (by first | rfl | (simp; done) | (simp [*]; done)), (by first | rfl | (simp; done) | (simp [*]; done)), H', ⟨by have := HK1.out; have := HJ5.out; omega⟩, ⟨by repeat (first | (with_reducible first | exact HB.out | apply below_alloc | apply pw_below_drewN | apply below_drew1) | exact HB.out)⟩⟩
        ·rw [if_neg c9] at H
         exact absurd H (by simp)
       ·rw [if_neg c8] at H
        exact absurd H (by simp)
    ·rw [if_neg c4] at H
     exact absurd H (by simp)
   ·rw [if_neg c3] at H
    have c3b0 : decide (x7_1 < (t188.size : Int)) = false := decide_eq_false c3
    clear c3
    simp only [Option.some.injEq, Prod.mk.injEq] at H
    obtain ⟨rfl, rfl⟩ := H
    go_wp2
    go_ret2
    exact ⟨_, by first | rfl | (simp [errW_none, errW_some] <;> rfl) | (simp [*, errW_none, errW_some] <;> rfl), by first | exact Kd.R_nil _ _ _ _ _ | exact Kd.N_nil _ _ _ _ _ | exact Kd.V_nil _ _ _ _ _ | exact Kd.Q_nil _ _ _ _ _ | exact Kd.S_nil _ _ _ _ _, by repeat (first | (with_reducible first | exact HB.out | apply below_alloc | apply pw_below_drewN | apply below_drew1) | exact HB.out)⟩
end Go.Proofs.YtdbadfcekomomaaDoor.M
end
section
/- Laid by this session's program hbprint.py out of the translation: the function hornbook/hornbooklaw14.GlyphIs and its contract. -/
namespace Go.Proofs.YtdbadfcekomomaaDoor.M
open Go.RowKit Go.Proofs.YtdbadfcekomomaaDoorW.PrintWords Go.Proofs.YtdbadfcekomomaaDoorW.PrintLast Go.Proofs.YtdbadfcekomomaaDoorW.PrintMore
attribute [local go_sem] max2_int min2_int max_two min_two max_three min_three max_four min_four
set_option linter.unusedVariables false
set_option linter.unusedSimpArgs false
mutual
def hornbooklaw14_GlyphIs.j0 : Nat → Bool → List Int → Bool → List Int → Bool → ByteArray → Bool → ByteArray → Bool → List ByteArray → List ByteArray → Bool → Option (Bool)
 | 0, _, _, _, _, _, _, _, _, _, _, _, _ => none
 | k + 1, x5, x6, x7, x8, x9, x10, x11, x12, x13, x14, x15, x54 => if x54 = true then (some false) else (hornbooklaw14_GlyphIs.l0 k x5 x6 x7 x8 x9 x10 x11 x12 x13 x14 x15 0)
def hornbooklaw14_GlyphIs.l0 : Nat → Bool → List Int → Bool → List Int → Bool → ByteArray → Bool → ByteArray → Bool → List ByteArray → List ByteArray → Int → Option (Bool)
 | 0, _, _, _, _, _, _, _, _, _, _, _, _ => none
 | k + 1, x5, x6, x7, x8, x9, x10, x11, x12, x13, x14, x15, x16 => if x16 < (x14.length : Int) then (if 0 ≤ x16 then (if x16 < (x15.length : Int) then (if (rdOf ByteArray.empty x14 x16).toList = (rdOf ByteArray.empty x15 x16).toList then (hornbooklaw14_GlyphIs.l0 k x5 x6 x7 x8 x9 x10 x11 x12 x13 x14 x15 (wrap64 (x16 + 1))) else (some false)) else (none)) else (none)) else (if x5 = true then ((hornbookref02_Same.f k x6 x8).bind fun t243 => (if t243 = true then (if x7 = true then (if x9 = true then (if x10.toList = x12.toList then (if x11 = true then (some x13) else (some (!x13))) else (some false)) else (some false)) else (if x9 = true then (some false) else (if x10.toList = x12.toList then (if x11 = true then (some x13) else (some (!x13))) else (some false)))) else (some false))) else (some false))
end
def hornbooklaw14_GlyphIs.f (k : Nat) (a0 : ByteArray) (a1 : Int) : Option (Bool) := (hornbooklaw14_awake.f k).bind fun t221 => (if (a0.size : Int) > 300 then (some t221) else ((glyph_Uni.f k a0).bind fun bt222 => ((hornbookref14_Uni.f k a0).bind fun bt226 => ((glyph_Back.f k a1).bind fun bt230 => ((hornbookref14_Back.f k a1).bind fun bt232 => ((glyph_Names.f k).bind fun t234 => ((hornbookref14_Names.f k).bind fun t237 => (if (t234.length : Int) = (t237.length : Int) then ((glyph_Count.f k).bind fun t240 => (hornbooklaw14_GlyphIs.j0 k t221 bt222.1 bt222.2 bt226.1 bt226.2 bt230.1 bt230.2 bt232.1 bt232.2 t234 t237 (t240 != (t237.length : Int)))) else (hornbooklaw14_GlyphIs.j0 k t221 bt222.1 bt222.2 bt226.1 bt226.2 bt230.1 bt230.2 bt232.1 bt232.2 t234 t237 true)))))))))
set_option maxHeartbeats 8000000 in
set_option maxRecDepth 100000 in
theorem hornbooklaw14_GlyphIs.calls (k : Nat) (a0 : ByteArray) (a1 : Int) (r : Bool) (w : World) (hG : GW w) (h : hornbooklaw14_GlyphIs.f k a0 a1 = some r) :
  Calls Tryd.prog 3 #[.string a0, .int .i64 a1] w fun e w' => e = .returned (.bool r) ∧ Below w.heap.size w w' := by
 have HG := Aside0.mk hG
 clear hG
 have HB := Aside0.mk (Below.refl w.heap.size w)
 have H : ((hornbooklaw14_awake.f k).bind fun t221 => (if (a0.size : Int) > 300 then (some t221) else ((glyph_Uni.f k a0).bind fun bt222 => ((hornbookref14_Uni.f k a0).bind fun bt226 => ((glyph_Back.f k a1).bind fun bt230 => ((hornbookref14_Back.f k a1).bind fun bt232 => ((glyph_Names.f k).bind fun t234 => ((hornbookref14_Names.f k).bind fun t237 => (if (t234.length : Int) = (t237.length : Int) then ((glyph_Count.f k).bind fun t240 => (hornbooklaw14_GlyphIs.j0 k t221 bt222.1 bt222.2 bt226.1 bt226.2 bt230.1 bt230.2 bt232.1 bt232.2 t234 t237 (t240 != (t237.length : Int)))) else (hornbooklaw14_GlyphIs.j0 k t221 bt222.1 bt222.2 bt226.1 bt226.2 bt230.1 bt230.2 bt232.1 bt232.2 t234 t237 true)))))))))) = some r := h
 clear h
 replace H := Option.bind_eq_some_iff.mp H
 obtain ⟨t221, A30, H⟩ := H
 replace H : (if (a0.size : Int) > 300 then (some t221) else ((glyph_Uni.f k a0).bind fun bt222 => ((hornbookref14_Uni.f k a0).bind fun bt226 => ((glyph_Back.f k a1).bind fun bt230 => ((hornbookref14_Back.f k a1).bind fun bt232 => ((glyph_Names.f k).bind fun t234 => ((hornbookref14_Names.f k).bind fun t237 => (if (t234.length : Int) = (t237.length : Int) then ((glyph_Count.f k).bind fun t240 => (hornbooklaw14_GlyphIs.j0 k t221 bt222.1 bt222.2 bt226.1 bt226.2 bt230.1 bt230.2 bt232.1 bt232.2 t234 t237 (t240 != (t237.length : Int)))) else (hornbooklaw14_GlyphIs.j0 k t221 bt222.1 bt222.2 bt226.1 bt226.2 bt230.1 bt230.2 bt232.1 bt232.2 t234 t237 true))))))))) = some r := H
 have A3 := Aside0.mk A30
 clear A30
 by_cases c4 : (a0.size : Int) > 300
 ·rw [if_pos c4] at H
  have c4b0 : decide (300 < (a0.size : Int)) = true := decide_eq_true c4
  have c4b1 : decide (300 < a0.size) = true := decide_eq_true (by omega)
  clear c4
  obtain rfl := Option.some.inj H
  go_enter Tryd.func3, Tryd.ntmps3
  go_wp2_with (first | (go_at_call 6; (with_reducible refine (hornbooklaw14_awake.calls k  t221 _ ?side1 A3.out).mono ?_); (case side1 => exact GW.below (by repeat (first | (with_reducible first | exact HB.out | apply below_alloc | apply pw_below_drewN | apply below_drew1) | exact HB.out)) HG.out); rintro e w5 ⟨rfl, hb⟩; have n0_ := Aside0.mk (below_step (by repeat (first | (with_reducible first | exact HB.out | apply below_alloc | apply pw_below_drewN | apply below_drew1) | exact HB.out)) hb); clear HB; have HB := n0_; clear n0_; (try clear hb); (try clear hb2); (try clear hk); (try clear hi)))
  repeat (go_quiet (first | (go_at_call 6; (with_reducible refine (hornbooklaw14_awake.calls k  t221 _ ?side1 A3.out).mono ?_); (case side1 => exact GW.below (by repeat (first | (with_reducible first | exact HB.out | apply below_alloc | apply pw_below_drewN | apply below_drew1) | exact HB.out)) HG.out); rintro e w5 ⟨rfl, hb⟩; have n0_ := Aside0.mk (below_step (by repeat (first | (with_reducible first | exact HB.out | apply below_alloc | apply pw_below_drewN | apply below_drew1) | exact HB.out)) hb); clear HB; have HB := n0_; clear n0_; (try clear hb); (try clear hb2); (try clear hk); (try clear hi))); try go_wp2_with (first | (go_at_call 6; (with_reducible refine (hornbooklaw14_awake.calls k  t221 _ ?side1 A3.out).mono ?_); (case side1 => exact GW.below (by repeat (first | (with_reducible first | exact HB.out | apply below_alloc | apply pw_below_drewN | apply below_drew1) | exact HB.out)) HG.out); rintro e w5 ⟨rfl, hb⟩; have n0_ := Aside0.mk (below_step (by repeat (first | (with_reducible first | exact HB.out | apply below_alloc | apply pw_below_drewN | apply below_drew1) | exact HB.out)) hb); clear HB; have HB := n0_; clear n0_; (try clear hb); (try clear hb2); (try clear hk); (try clear hi))))
  go_ret
  exact ⟨by first | rfl | (simp [errW_none, errW_some] <;> rfl) | (simp [*, errW_none, errW_some] <;> rfl), by repeat (first | (with_reducible first | exact HB.out | apply below_alloc | apply pw_below_drewN | apply below_drew1) | exact HB.out)⟩
 ·rw [if_neg c4] at H
  have c4b0 : decide (300 < (a0.size : Int)) = false := decide_eq_false c4
  have c4b1 : decide (300 < a0.size) = false := decide_eq_false (by omega)
  clear c4
  replace H := Option.bind_eq_some_iff.mp H
  obtain ⟨⟨t222, t223⟩, A60, H⟩ := H
  replace H : ((hornbookref14_Uni.f k a0).bind fun bt226 => ((glyph_Back.f k a1).bind fun bt230 => ((hornbookref14_Back.f k a1).bind fun bt232 => ((glyph_Names.f k).bind fun t234 => ((hornbookref14_Names.f k).bind fun t237 => (if (t234.length : Int) = (t237.length : Int) then ((glyph_Count.f k).bind fun t240 => (hornbooklaw14_GlyphIs.j0 k t221 t222 t223 bt226.1 bt226.2 bt230.1 bt230.2 bt232.1 bt232.2 t234 t237 (t240 != (t237.length : Int)))) else (hornbooklaw14_GlyphIs.j0 k t221 t222 t223 bt226.1 bt226.2 bt230.1 bt230.2 bt232.1 bt232.2 t234 t237 true))))))) = some r := H
  have A6 := Aside0.mk A60
  clear A60
  replace H := Option.bind_eq_some_iff.mp H
  obtain ⟨⟨t226, t227⟩, A70, H⟩ := H
  replace H : ((glyph_Back.f k a1).bind fun bt230 => ((hornbookref14_Back.f k a1).bind fun bt232 => ((glyph_Names.f k).bind fun t234 => ((hornbookref14_Names.f k).bind fun t237 => (if (t234.length : Int) = (t237.length : Int) then ((glyph_Count.f k).bind fun t240 => (hornbooklaw14_GlyphIs.j0 k t221 t222 t223 t226 t227 bt230.1 bt230.2 bt232.1 bt232.2 t234 t237 (t240 != (t237.length : Int)))) else (hornbooklaw14_GlyphIs.j0 k t221 t222 t223 t226 t227 bt230.1 bt230.2 bt232.1 bt232.2 t234 t237 true)))))) = some r := H
  have A7 := Aside0.mk A70
  clear A70
  replace H := Option.bind_eq_some_iff.mp H
  obtain ⟨⟨t230, t231⟩, A80, H⟩ := H
  replace H : ((hornbookref14_Back.f k a1).bind fun bt232 => ((glyph_Names.f k).bind fun t234 => ((hornbookref14_Names.f k).bind fun t237 => (if (t234.length : Int) = (t237.length : Int) then ((glyph_Count.f k).bind fun t240 => (hornbooklaw14_GlyphIs.j0 k t221 t222 t223 t226 t227 t230 t231 bt232.1 bt232.2 t234 t237 (t240 != (t237.length : Int)))) else (hornbooklaw14_GlyphIs.j0 k t221 t222 t223 t226 t227 t230 t231 bt232.1 bt232.2 t234 t237 true))))) = some r := H
  have A8 := Aside0.mk A80
  clear A80
  replace H := Option.bind_eq_some_iff.mp H
  obtain ⟨⟨t232, t233⟩, A90, H⟩ := H
  replace H : ((glyph_Names.f k).bind fun t234 => ((hornbookref14_Names.f k).bind fun t237 => (if (t234.length : Int) = (t237.length : Int) then ((glyph_Count.f k).bind fun t240 => (hornbooklaw14_GlyphIs.j0 k t221 t222 t223 t226 t227 t230 t231 t232 t233 t234 t237 (t240 != (t237.length : Int)))) else (hornbooklaw14_GlyphIs.j0 k t221 t222 t223 t226 t227 t230 t231 t232 t233 t234 t237 true)))) = some r := H
  have A9 := Aside0.mk A90
  clear A90
  replace H := Option.bind_eq_some_iff.mp H
  obtain ⟨t234, A100, H⟩ := H
  replace H : ((hornbookref14_Names.f k).bind fun t237 => (if (t234.length : Int) = (t237.length : Int) then ((glyph_Count.f k).bind fun t240 => (hornbooklaw14_GlyphIs.j0 k t221 t222 t223 t226 t227 t230 t231 t232 t233 t234 t237 (t240 != (t237.length : Int)))) else (hornbooklaw14_GlyphIs.j0 k t221 t222 t223 t226 t227 t230 t231 t232 t233 t234 t237 true))) = some r := H
  have A10 := Aside0.mk A100
  clear A100
  replace H := Option.bind_eq_some_iff.mp H
  obtain ⟨t237, A110, H⟩ := H
  replace H : (if (t234.length : Int) = (t237.length : Int) then ((glyph_Count.f k).bind fun t240 => (hornbooklaw14_GlyphIs.j0 k t221 t222 t223 t226 t227 t230 t231 t232 t233 t234 t237 (t240 != (t237.length : Int)))) else (hornbooklaw14_GlyphIs.j0 k t221 t222 t223 t226 t227 t230 t231 t232 t233 t234 t237 true)) = some r := H
  have A11 := Aside0.mk A110
  clear A110
  have HC12 := Aside0.mk H
  clear H
  go_enter Tryd.func3, Tryd.ntmps3
  go_upto_region 10 with (first | (go_at_call 6; (with_reducible refine (hornbooklaw14_awake.calls k  t221 _ ?side1 A3.out).mono ?_); (case side1 => exact GW.below (by repeat (first | (with_reducible first | exact HB.out | apply below_alloc | apply pw_below_drewN | apply below_drew1) | exact HB.out)) HG.out); rintro e w13 ⟨rfl, hb⟩; have n0_ := Aside0.mk (below_step (by repeat (first | (with_reducible first | exact HB.out | apply below_alloc | apply pw_below_drewN | apply below_drew1) | exact HB.out)) hb); clear HB; have HB := n0_; clear n0_; (try clear hb); (try clear hb2); (try clear hk); (try clear hi)) | (go_at_call 7; (with_reducible refine (glyph_Uni.calls k a0 t222 t223 _ ?side1 A6.out).mono ?_); (case side1 => exact GW.below (by repeat (first | (with_reducible first | exact HB.out | apply below_alloc | apply pw_below_drewN | apply below_drew1) | exact HB.out)) HG.out); rintro e w14 ⟨v224, rfl, ho0, hb⟩; have n0_ := Aside0.mk (Kd.R_lower ho0 (below_size (by repeat (first | (with_reducible first | exact HB.out | apply below_alloc | apply pw_below_drewN | apply below_drew1) | exact HB.out)))); have n1_ := Aside0.mk (below_step (by repeat (first | (with_reducible first | exact HB.out | apply below_alloc | apply pw_below_drewN | apply below_drew1) | exact HB.out)) hb); clear HB; have HO225 := n0_; have HB := n1_; clear n0_ n1_; (try clear hb); (try clear hb2); (try clear hk); (try clear hi); (try clear ho0)) | (go_at_call 8; (with_reducible refine (hornbookref14_Uni.calls k a0 t226 t227 _ A7.out).mono ?_); rintro e w15 ⟨v228, rfl, ho0, hb⟩; have n0_ := Aside0.mk (Kd.R_elder' (by (with_reducible repeat (first | apply Kd.R_alloc | apply Kd.R_drewN | apply Kd.R_drew)); exact HO225.out) (Kd.R_base ho0) hb); have n1_ := Aside0.mk (Kd.R_lower (Kd.R_new' ho0 (Kd.R_lt (by (with_reducible repeat (first | apply Kd.R_alloc | apply Kd.R_drewN | apply Kd.R_drew)); exact HO225.out))) (below_size (by repeat (first | (with_reducible first | exact HB.out | apply below_alloc | apply pw_below_drewN | apply below_drew1) | exact HB.out)))); have n2_ := Aside0.mk (below_step (by repeat (first | (with_reducible first | exact HB.out | apply below_alloc | apply pw_below_drewN | apply below_drew1) | exact HB.out)) hb); clear HO225; clear HB; have HO225 := n0_; have HO229 := n1_; have HB := n2_; clear n0_ n1_ n2_; (try clear hb); (try clear hb2); (try clear hk); (try clear hi); (try clear ho0)) | (go_at_call 9; (with_reducible refine (glyph_Back.calls k a1 t230 t231 _ ?side1 A8.out).mono ?_); (case side1 => exact GW.below (by repeat (first | (with_reducible first | exact HB.out | apply below_alloc | apply pw_below_drewN | apply below_drew1) | exact HB.out)) HG.out); rintro e w16 ⟨rfl, hb⟩; have n0_ := Aside0.mk (Kd.R_below (by (with_reducible repeat (first | apply Kd.R_alloc | apply Kd.R_drewN | apply Kd.R_drew)); exact HO225.out) hb); have n1_ := Aside0.mk (Kd.R_below (by (with_reducible repeat (first | apply Kd.R_alloc | apply Kd.R_drewN | apply Kd.R_drew)); exact HO229.out) hb); have n2_ := Aside0.mk (below_step (by repeat (first | (with_reducible first | exact HB.out | apply below_alloc | apply pw_below_drewN | apply below_drew1) | exact HB.out)) hb); clear HO225; clear HO229; clear HB; have HO225 := n0_; have HO229 := n1_; have HB := n2_; clear n0_ n1_ n2_; (try clear hb); (try clear hb2); (try clear hk); (try clear hi)) | (go_at_call 10; (with_reducible refine (hornbookref14_Back.calls k a1 t232 t233 _ A9.out).mono ?_); rintro e w17 ⟨rfl, hb⟩; have n0_ := Aside0.mk (Kd.R_below (by (with_reducible repeat (first | apply Kd.R_alloc | apply Kd.R_drewN | apply Kd.R_drew)); exact HO225.out) hb); have n1_ := Aside0.mk (Kd.R_below (by (with_reducible repeat (first | apply Kd.R_alloc | apply Kd.R_drewN | apply Kd.R_drew)); exact HO229.out) hb); have n2_ := Aside0.mk (below_step (by repeat (first | (with_reducible first | exact HB.out | apply below_alloc | apply pw_below_drewN | apply below_drew1) | exact HB.out)) hb); clear HO225; clear HO229; clear HB; have HO225 := n0_; have HO229 := n1_; have HB := n2_; clear n0_ n1_ n2_; (try clear hb); (try clear hb2); (try clear hk); (try clear hi)) | (go_at_call 11; (with_reducible refine (glyph_Names.calls k  t234 _ ?side1 A10.out).mono ?_); (case side1 => exact GW.below (by repeat (first | (with_reducible first | exact HB.out | apply below_alloc | apply pw_below_drewN | apply below_drew1) | exact HB.out)) HG.out); rintro e w18 ⟨v235, rfl, ho0, hb⟩; have n0_ := Aside0.mk (Kd.R_below (by (with_reducible repeat (first | apply Kd.R_alloc | apply Kd.R_drewN | apply Kd.R_drew)); exact HO225.out) hb); have n1_ := Aside0.mk (Kd.R_below (by (with_reducible repeat (first | apply Kd.R_alloc | apply Kd.R_drewN | apply Kd.R_drew)); exact HO229.out) hb); have n2_ := Aside0.mk (Kd.R_lower ho0 (below_size (by repeat (first | (with_reducible first | exact HB.out | apply below_alloc | apply pw_below_drewN | apply below_drew1) | exact HB.out)))); have n3_ := Aside0.mk (below_step (by repeat (first | (with_reducible first | exact HB.out | apply below_alloc | apply pw_below_drewN | apply below_drew1) | exact HB.out)) hb); clear HO225; clear HO229; clear HB; have HO225 := n0_; have HO229 := n1_; have HO236 := n2_; have HB := n3_; clear n0_ n1_ n2_ n3_; (try clear hb); (try clear hb2); (try clear hk); (try clear hi); (try clear ho0)) | (go_at_call 12; (with_reducible refine (hornbookref14_Names.calls k  t237 _ A11.out).mono ?_); rintro e w19 ⟨v238, rfl, ho0, hb⟩; have n0_ := Aside0.mk (Kd.R_below (by (with_reducible repeat (first | apply Kd.R_alloc | apply Kd.R_drewN | apply Kd.R_drew)); exact HO225.out) hb); have n1_ := Aside0.mk (Kd.R_below (by (with_reducible repeat (first | apply Kd.R_alloc | apply Kd.R_drewN | apply Kd.R_drew)); exact HO229.out) hb); have n2_ := Aside0.mk (Kd.R_elder' (by (with_reducible repeat (first | apply Kd.R_alloc | apply Kd.R_drewN | apply Kd.R_drew)); exact HO236.out) (Kd.R_base ho0) hb); have n3_ := Aside0.mk (Kd.R_lower (Kd.R_new' ho0 (Kd.R_lt (by (with_reducible repeat (first | apply Kd.R_alloc | apply Kd.R_drewN | apply Kd.R_drew)); exact HO236.out))) (below_size (by repeat (first | (with_reducible first | exact HB.out | apply below_alloc | apply pw_below_drewN | apply below_drew1) | exact HB.out)))); have n4_ := Aside0.mk (below_step (by repeat (first | (with_reducible first | exact HB.out | apply below_alloc | apply pw_below_drewN | apply below_drew1) | exact HB.out)) hb); clear HO225; clear HO229; clear HO236; clear HB; have HO225 := n0_; have HO229 := n1_; have HO236 := n2_; have HO239 := n3_; have HB := n4_; clear n0_ n1_ n2_ n3_ n4_; (try clear hb); (try clear hb2); (try clear hk); (try clear hi); (try clear ho0)))
  repeat (go_quiet (first | (go_at_call 6; (with_reducible refine (hornbooklaw14_awake.calls k  t221 _ ?side1 A3.out).mono ?_); (case side1 => exact GW.below (by repeat (first | (with_reducible first | exact HB.out | apply below_alloc | apply pw_below_drewN | apply below_drew1) | exact HB.out)) HG.out); rintro e w13 ⟨rfl, hb⟩; have n0_ := Aside0.mk (below_step (by repeat (first | (with_reducible first | exact HB.out | apply below_alloc | apply pw_below_drewN | apply below_drew1) | exact HB.out)) hb); clear HB; have HB := n0_; clear n0_; (try clear hb); (try clear hb2); (try clear hk); (try clear hi)) | (go_at_call 7; (with_reducible refine (glyph_Uni.calls k a0 t222 t223 _ ?side1 A6.out).mono ?_); (case side1 => exact GW.below (by repeat (first | (with_reducible first | exact HB.out | apply below_alloc | apply pw_below_drewN | apply below_drew1) | exact HB.out)) HG.out); rintro e w14 ⟨v224, rfl, ho0, hb⟩; have n0_ := Aside0.mk (Kd.R_lower ho0 (below_size (by repeat (first | (with_reducible first | exact HB.out | apply below_alloc | apply pw_below_drewN | apply below_drew1) | exact HB.out)))); have n1_ := Aside0.mk (below_step (by repeat (first | (with_reducible first | exact HB.out | apply below_alloc | apply pw_below_drewN | apply below_drew1) | exact HB.out)) hb); clear HB; have HO225 := n0_; have HB := n1_; clear n0_ n1_; (try clear hb); (try clear hb2); (try clear hk); (try clear hi); (try clear ho0)) | (go_at_call 8; (with_reducible refine (hornbookref14_Uni.calls k a0 t226 t227 _ A7.out).mono ?_); rintro e w15 ⟨v228, rfl, ho0, hb⟩; have n0_ := Aside0.mk (Kd.R_elder' (by (with_reducible repeat (first | apply Kd.R_alloc | apply Kd.R_drewN | apply Kd.R_drew)); exact HO225.out) (Kd.R_base ho0) hb); have n1_ := Aside0.mk (Kd.R_lower (Kd.R_new' ho0 (Kd.R_lt (by (with_reducible repeat (first | apply Kd.R_alloc | apply Kd.R_drewN | apply Kd.R_drew)); exact HO225.out))) (below_size (by repeat (first | (with_reducible first | exact HB.out | apply below_alloc | apply pw_below_drewN | apply below_drew1) | exact HB.out)))); have n2_ := Aside0.mk (below_step (by repeat (first | (with_reducible first | exact HB.out | apply below_alloc | apply pw_below_drewN | apply below_drew1) | exact HB.out)) hb); clear HO225; clear HB; have HO225 := n0_; have HO229 := n1_; have HB := n2_; clear n0_ n1_ n2_; (try clear hb); (try clear hb2); (try clear hk); (try clear hi); (try clear ho0)) | (go_at_call 9; (with_reducible refine (glyph_Back.calls k a1 t230 t231 _ ?side1 A8.out).mono ?_); (case side1 => exact GW.below (by repeat (first | (with_reducible first | exact HB.out | apply below_alloc | apply pw_below_drewN | apply below_drew1) | exact HB.out)) HG.out); rintro e w16 ⟨rfl, hb⟩; have n0_ := Aside0.mk (Kd.R_below (by (with_reducible repeat (first | apply Kd.R_alloc | apply Kd.R_drewN | apply Kd.R_drew)); exact HO225.out) hb); have n1_ := Aside0.mk (Kd.R_below (by (with_reducible repeat (first | apply Kd.R_alloc | apply Kd.R_drewN | apply Kd.R_drew)); exact HO229.out) hb); have n2_ := Aside0.mk (below_step (by repeat (first | (with_reducible first | exact HB.out | apply below_alloc | apply pw_below_drewN | apply below_drew1) | exact HB.out)) hb); clear HO225; clear HO229; clear HB; have HO225 := n0_; have HO229 := n1_; have HB := n2_; clear n0_ n1_ n2_; (try clear hb); (try clear hb2); (try clear hk); (try clear hi)) | (go_at_call 10; (with_reducible refine (hornbookref14_Back.calls k a1 t232 t233 _ A9.out).mono ?_); rintro e w17 ⟨rfl, hb⟩; have n0_ := Aside0.mk (Kd.R_below (by (with_reducible repeat (first | apply Kd.R_alloc | apply Kd.R_drewN | apply Kd.R_drew)); exact HO225.out) hb); have n1_ := Aside0.mk (Kd.R_below (by (with_reducible repeat (first | apply Kd.R_alloc | apply Kd.R_drewN | apply Kd.R_drew)); exact HO229.out) hb); have n2_ := Aside0.mk (below_step (by repeat (first | (with_reducible first | exact HB.out | apply below_alloc | apply pw_below_drewN | apply below_drew1) | exact HB.out)) hb); clear HO225; clear HO229; clear HB; have HO225 := n0_; have HO229 := n1_; have HB := n2_; clear n0_ n1_ n2_; (try clear hb); (try clear hb2); (try clear hk); (try clear hi)) | (go_at_call 11; (with_reducible refine (glyph_Names.calls k  t234 _ ?side1 A10.out).mono ?_); (case side1 => exact GW.below (by repeat (first | (with_reducible first | exact HB.out | apply below_alloc | apply pw_below_drewN | apply below_drew1) | exact HB.out)) HG.out); rintro e w18 ⟨v235, rfl, ho0, hb⟩; have n0_ := Aside0.mk (Kd.R_below (by (with_reducible repeat (first | apply Kd.R_alloc | apply Kd.R_drewN | apply Kd.R_drew)); exact HO225.out) hb); have n1_ := Aside0.mk (Kd.R_below (by (with_reducible repeat (first | apply Kd.R_alloc | apply Kd.R_drewN | apply Kd.R_drew)); exact HO229.out) hb); have n2_ := Aside0.mk (Kd.R_lower ho0 (below_size (by repeat (first | (with_reducible first | exact HB.out | apply below_alloc | apply pw_below_drewN | apply below_drew1) | exact HB.out)))); have n3_ := Aside0.mk (below_step (by repeat (first | (with_reducible first | exact HB.out | apply below_alloc | apply pw_below_drewN | apply below_drew1) | exact HB.out)) hb); clear HO225; clear HO229; clear HB; have HO225 := n0_; have HO229 := n1_; have HO236 := n2_; have HB := n3_; clear n0_ n1_ n2_ n3_; (try clear hb); (try clear hb2); (try clear hk); (try clear hi); (try clear ho0)) | (go_at_call 12; (with_reducible refine (hornbookref14_Names.calls k  t237 _ A11.out).mono ?_); rintro e w19 ⟨v238, rfl, ho0, hb⟩; have n0_ := Aside0.mk (Kd.R_below (by (with_reducible repeat (first | apply Kd.R_alloc | apply Kd.R_drewN | apply Kd.R_drew)); exact HO225.out) hb); have n1_ := Aside0.mk (Kd.R_below (by (with_reducible repeat (first | apply Kd.R_alloc | apply Kd.R_drewN | apply Kd.R_drew)); exact HO229.out) hb); have n2_ := Aside0.mk (Kd.R_elder' (by (with_reducible repeat (first | apply Kd.R_alloc | apply Kd.R_drewN | apply Kd.R_drew)); exact HO236.out) (Kd.R_base ho0) hb); have n3_ := Aside0.mk (Kd.R_lower (Kd.R_new' ho0 (Kd.R_lt (by (with_reducible repeat (first | apply Kd.R_alloc | apply Kd.R_drewN | apply Kd.R_drew)); exact HO236.out))) (below_size (by repeat (first | (with_reducible first | exact HB.out | apply below_alloc | apply pw_below_drewN | apply below_drew1) | exact HB.out)))); have n4_ := Aside0.mk (below_step (by repeat (first | (with_reducible first | exact HB.out | apply below_alloc | apply pw_below_drewN | apply below_drew1) | exact HB.out)) hb); clear HO225; clear HO229; clear HO236; clear HB; have HO225 := n0_; have HO229 := n1_; have HO236 := n2_; have HO239 := n3_; have HB := n4_; clear n0_ n1_ n2_ n3_ n4_; (try clear hb); (try clear hb2); (try clear hk); (try clear hi); (try clear ho0))); go_upto_region 10 with (first | (go_at_call 6; (with_reducible refine (hornbooklaw14_awake.calls k  t221 _ ?side1 A3.out).mono ?_); (case side1 => exact GW.below (by repeat (first | (with_reducible first | exact HB.out | apply below_alloc | apply pw_below_drewN | apply below_drew1) | exact HB.out)) HG.out); rintro e w13 ⟨rfl, hb⟩; have n0_ := Aside0.mk (below_step (by repeat (first | (with_reducible first | exact HB.out | apply below_alloc | apply pw_below_drewN | apply below_drew1) | exact HB.out)) hb); clear HB; have HB := n0_; clear n0_; (try clear hb); (try clear hb2); (try clear hk); (try clear hi)) | (go_at_call 7; (with_reducible refine (glyph_Uni.calls k a0 t222 t223 _ ?side1 A6.out).mono ?_); (case side1 => exact GW.below (by repeat (first | (with_reducible first | exact HB.out | apply below_alloc | apply pw_below_drewN | apply below_drew1) | exact HB.out)) HG.out); rintro e w14 ⟨v224, rfl, ho0, hb⟩; have n0_ := Aside0.mk (Kd.R_lower ho0 (below_size (by repeat (first | (with_reducible first | exact HB.out | apply below_alloc | apply pw_below_drewN | apply below_drew1) | exact HB.out)))); have n1_ := Aside0.mk (below_step (by repeat (first | (with_reducible first | exact HB.out | apply below_alloc | apply pw_below_drewN | apply below_drew1) | exact HB.out)) hb); clear HB; have HO225 := n0_; have HB := n1_; clear n0_ n1_; (try clear hb); (try clear hb2); (try clear hk); (try clear hi); (try clear ho0)) | (go_at_call 8; (with_reducible refine (hornbookref14_Uni.calls k a0 t226 t227 _ A7.out).mono ?_); rintro e w15 ⟨v228, rfl, ho0, hb⟩; have n0_ := Aside0.mk (Kd.R_elder' (by (with_reducible repeat (first | apply Kd.R_alloc | apply Kd.R_drewN | apply Kd.R_drew)); exact HO225.out) (Kd.R_base ho0) hb); have n1_ := Aside0.mk (Kd.R_lower (Kd.R_new' ho0 (Kd.R_lt (by (with_reducible repeat (first | apply Kd.R_alloc | apply Kd.R_drewN | apply Kd.R_drew)); exact HO225.out))) (below_size (by repeat (first | (with_reducible first | exact HB.out | apply below_alloc | apply pw_below_drewN | apply below_drew1) | exact HB.out)))); have n2_ := Aside0.mk (below_step (by repeat (first | (with_reducible first | exact HB.out | apply below_alloc | apply pw_below_drewN | apply below_drew1) | exact HB.out)) hb); clear HO225; clear HB; have HO225 := n0_; have HO229 := n1_; have HB := n2_; clear n0_ n1_ n2_; (try clear hb); (try clear hb2); (try clear hk); (try clear hi); (try clear ho0)) | (go_at_call 9; (with_reducible refine (glyph_Back.calls k a1 t230 t231 _ ?side1 A8.out).mono ?_); (case side1 => exact GW.below (by repeat (first | (with_reducible first | exact HB.out | apply below_alloc | apply pw_below_drewN | apply below_drew1) | exact HB.out)) HG.out); rintro e w16 ⟨rfl, hb⟩; have n0_ := Aside0.mk (Kd.R_below (by (with_reducible repeat (first | apply Kd.R_alloc | apply Kd.R_drewN | apply Kd.R_drew)); exact HO225.out) hb); have n1_ := Aside0.mk (Kd.R_below (by (with_reducible repeat (first | apply Kd.R_alloc | apply Kd.R_drewN | apply Kd.R_drew)); exact HO229.out) hb); have n2_ := Aside0.mk (below_step (by repeat (first | (with_reducible first | exact HB.out | apply below_alloc | apply pw_below_drewN | apply below_drew1) | exact HB.out)) hb); clear HO225; clear HO229; clear HB; have HO225 := n0_; have HO229 := n1_; have HB := n2_; clear n0_ n1_ n2_; (try clear hb); (try clear hb2); (try clear hk); (try clear hi)) | (go_at_call 10; (with_reducible refine (hornbookref14_Back.calls k a1 t232 t233 _ A9.out).mono ?_); rintro e w17 ⟨rfl, hb⟩; have n0_ := Aside0.mk (Kd.R_below (by (with_reducible repeat (first | apply Kd.R_alloc | apply Kd.R_drewN | apply Kd.R_drew)); exact HO225.out) hb); have n1_ := Aside0.mk (Kd.R_below (by (with_reducible repeat (first | apply Kd.R_alloc | apply Kd.R_drewN | apply Kd.R_drew)); exact HO229.out) hb); have n2_ := Aside0.mk (below_step (by repeat (first | (with_reducible first | exact HB.out | apply below_alloc | apply pw_below_drewN | apply below_drew1) | exact HB.out)) hb); clear HO225; clear HO229; clear HB; have HO225 := n0_; have HO229 := n1_; have HB := n2_; clear n0_ n1_ n2_; (try clear hb); (try clear hb2); (try clear hk); (try clear hi)) | (go_at_call 11; (with_reducible refine (glyph_Names.calls k  t234 _ ?side1 A10.out).mono ?_); (case side1 => exact GW.below (by repeat (first | (with_reducible first | exact HB.out | apply below_alloc | apply pw_below_drewN | apply below_drew1) | exact HB.out)) HG.out); rintro e w18 ⟨v235, rfl, ho0, hb⟩; have n0_ := Aside0.mk (Kd.R_below (by (with_reducible repeat (first | apply Kd.R_alloc | apply Kd.R_drewN | apply Kd.R_drew)); exact HO225.out) hb); have n1_ := Aside0.mk (Kd.R_below (by (with_reducible repeat (first | apply Kd.R_alloc | apply Kd.R_drewN | apply Kd.R_drew)); exact HO229.out) hb); have n2_ := Aside0.mk (Kd.R_lower ho0 (below_size (by repeat (first | (with_reducible first | exact HB.out | apply below_alloc | apply pw_below_drewN | apply below_drew1) | exact HB.out)))); have n3_ := Aside0.mk (below_step (by repeat (first | (with_reducible first | exact HB.out | apply below_alloc | apply pw_below_drewN | apply below_drew1) | exact HB.out)) hb); clear HO225; clear HO229; clear HB; have HO225 := n0_; have HO229 := n1_; have HO236 := n2_; have HB := n3_; clear n0_ n1_ n2_ n3_; (try clear hb); (try clear hb2); (try clear hk); (try clear hi); (try clear ho0)) | (go_at_call 12; (with_reducible refine (hornbookref14_Names.calls k  t237 _ A11.out).mono ?_); rintro e w19 ⟨v238, rfl, ho0, hb⟩; have n0_ := Aside0.mk (Kd.R_below (by (with_reducible repeat (first | apply Kd.R_alloc | apply Kd.R_drewN | apply Kd.R_drew)); exact HO225.out) hb); have n1_ := Aside0.mk (Kd.R_below (by (with_reducible repeat (first | apply Kd.R_alloc | apply Kd.R_drewN | apply Kd.R_drew)); exact HO229.out) hb); have n2_ := Aside0.mk (Kd.R_elder' (by (with_reducible repeat (first | apply Kd.R_alloc | apply Kd.R_drewN | apply Kd.R_drew)); exact HO236.out) (Kd.R_base ho0) hb); have n3_ := Aside0.mk (Kd.R_lower (Kd.R_new' ho0 (Kd.R_lt (by (with_reducible repeat (first | apply Kd.R_alloc | apply Kd.R_drewN | apply Kd.R_drew)); exact HO236.out))) (below_size (by repeat (first | (with_reducible first | exact HB.out | apply below_alloc | apply pw_below_drewN | apply below_drew1) | exact HB.out)))); have n4_ := Aside0.mk (below_step (by repeat (first | (with_reducible first | exact HB.out | apply below_alloc | apply pw_below_drewN | apply below_drew1) | exact HB.out)) hb); clear HO225; clear HO229; clear HO236; clear HB; have HO225 := n0_; have HO229 := n1_; have HO236 := n2_; have HO239 := n3_; have HB := n4_; clear n0_ n1_ n2_ n3_ n4_; (try clear hb); (try clear hb2); (try clear hk); (try clear hi); (try clear ho0))))
  (try simp only [Act.put, List.setIfInBounds_toArray, List.set_cons_zero, List.set_cons_succ])
  go_cut [54] (fun v54 wc => ∃ (kq : Nat) (x54_11 : Bool), v54 = .bool x54_11 ∧ Aside0 (hornbooklaw14_GlyphIs.j0 kq t221 t222 t223 t226 t227 t230 t231 t232 t233 t234 t237 x54_11 = some r) ∧ Aside0 (kq ≤ k) ∧ Aside0 (Kd.R (Kd.int .i64) 3 wc w.heap.size (fun k_ => some k_ ≠ (v228 : Value).ownBlock) v224 t222) ∧ Aside0 (Kd.R (Kd.int .i64) 3 wc w.heap.size (fun k_ => some k_ ≠ (v224 : Value).ownBlock) v228 t226) ∧ Aside0 (Kd.R Kd.string 9 wc w.heap.size (fun k_ => some k_ ≠ (v238 : Value).ownBlock) v235 t234) ∧ Aside0 (Kd.R Kd.string 9 wc w.heap.size (fun k_ => some k_ ≠ (v235 : Value).ownBlock) v238 t237) ∧ Aside0 (Below w.heap.size w wc))
  case first =>
   have H := HC12.out
   clear HC12
   by_cases c20 : (t234.length : Int) = (t237.length : Int)
   ·rw [if_pos c20] at H
    have c20b0 : ((t234.length : Int) == (t237.length : Int)) = true := beq_iff_eq.mpr c20
    have c20b1 : ((t234.length : Int) != (t237.length : Int)) = false := bne_eq_false_iff_eq.mpr c20
    have c20b2 : (t234.length == t237.length) = true := by first | simpa using c20 | (simp at c20 ⊢; omega)
    clear c20
    (first | rw [c20b0] | (simp only [i64_w, i32_w]; rw [c20b0]) | skip)
    replace H := Option.bind_eq_some_iff.mp H
    obtain ⟨t240, A210, H⟩ := H
    replace H : (hornbooklaw14_GlyphIs.j0 k t221 t222 t223 t226 t227 t230 t231 t232 t233 t234 t237 (t240 != (t237.length : Int))) = some r := H
    have A21 := Aside0.mk A210
    clear A210
    have H' := Aside0.mk H
    clear H
    obtain ⟨Ao22, co22, eo22⟩ := Kd.R_slice HO236.out
    subst eo22
    obtain ⟨Ao23, co23, eo23⟩ := Kd.R_slice HO239.out
    subst eo23
    go_wp2_with (first | (go_at_call 13; (with_reducible refine (glyph_Count.calls k  t240 _ ?side1 A21.out).mono ?_); (case side1 => exact GW.below (by repeat (first | (with_reducible first | exact HB.out | apply below_alloc | apply pw_below_drewN | apply below_drew1) | exact HB.out)) HG.out); rintro e w24 ⟨rfl, hb⟩; have n0_ := Aside0.mk (Kd.R_below (by (with_reducible repeat (first | apply Kd.R_alloc | apply Kd.R_drewN | apply Kd.R_drew)); exact HO225.out) hb); have n1_ := Aside0.mk (Kd.R_below (by (with_reducible repeat (first | apply Kd.R_alloc | apply Kd.R_drewN | apply Kd.R_drew)); exact HO229.out) hb); have n2_ := Aside0.mk (Kd.R_below (by (with_reducible repeat (first | apply Kd.R_alloc | apply Kd.R_drewN | apply Kd.R_drew)); exact HO236.out) hb); have n3_ := Aside0.mk (Kd.R_below (by (with_reducible repeat (first | apply Kd.R_alloc | apply Kd.R_drewN | apply Kd.R_drew)); exact HO239.out) hb); have n4_ := Aside0.mk (below_step (by repeat (first | (with_reducible first | exact HB.out | apply below_alloc | apply pw_below_drewN | apply below_drew1) | exact HB.out)) hb); clear HO225; clear HO229; clear HO236; clear HO239; clear HB; have HO225 := n0_; have HO229 := n1_; have HO236 := n2_; have HO239 := n3_; have HB := n4_; clear n0_ n1_ n2_ n3_ n4_; (try clear hb); (try clear hb2); (try clear hk); (try clear hi)))
    repeat (go_quiet (first | (go_at_call 13; (with_reducible refine (glyph_Count.calls k  t240 _ ?side1 A21.out).mono ?_); (case side1 => exact GW.below (by repeat (first | (with_reducible first | exact HB.out | apply below_alloc | apply pw_below_drewN | apply below_drew1) | exact HB.out)) HG.out); rintro e w24 ⟨rfl, hb⟩; have n0_ := Aside0.mk (Kd.R_below (by (with_reducible repeat (first | apply Kd.R_alloc | apply Kd.R_drewN | apply Kd.R_drew)); exact HO225.out) hb); have n1_ := Aside0.mk (Kd.R_below (by (with_reducible repeat (first | apply Kd.R_alloc | apply Kd.R_drewN | apply Kd.R_drew)); exact HO229.out) hb); have n2_ := Aside0.mk (Kd.R_below (by (with_reducible repeat (first | apply Kd.R_alloc | apply Kd.R_drewN | apply Kd.R_drew)); exact HO236.out) hb); have n3_ := Aside0.mk (Kd.R_below (by (with_reducible repeat (first | apply Kd.R_alloc | apply Kd.R_drewN | apply Kd.R_drew)); exact HO239.out) hb); have n4_ := Aside0.mk (below_step (by repeat (first | (with_reducible first | exact HB.out | apply below_alloc | apply pw_below_drewN | apply below_drew1) | exact HB.out)) hb); clear HO225; clear HO229; clear HO236; clear HO239; clear HB; have HO225 := n0_; have HO229 := n1_; have HO236 := n2_; have HO239 := n3_; have HB := n4_; clear n0_ n1_ n2_ n3_ n4_; (try clear hb); (try clear hb2); (try clear hk); (try clear hi))); try go_wp2_with (first | (go_at_call 13; (with_reducible refine (glyph_Count.calls k  t240 _ ?side1 A21.out).mono ?_); (case side1 => exact GW.below (by repeat (first | (with_reducible first | exact HB.out | apply below_alloc | apply pw_below_drewN | apply below_drew1) | exact HB.out)) HG.out); rintro e w24 ⟨rfl, hb⟩; have n0_ := Aside0.mk (Kd.R_below (by (with_reducible repeat (first | apply Kd.R_alloc | apply Kd.R_drewN | apply Kd.R_drew)); exact HO225.out) hb); have n1_ := Aside0.mk (Kd.R_below (by (with_reducible repeat (first | apply Kd.R_alloc | apply Kd.R_drewN | apply Kd.R_drew)); exact HO229.out) hb); have n2_ := Aside0.mk (Kd.R_below (by (with_reducible repeat (first | apply Kd.R_alloc | apply Kd.R_drewN | apply Kd.R_drew)); exact HO236.out) hb); have n3_ := Aside0.mk (Kd.R_below (by (with_reducible repeat (first | apply Kd.R_alloc | apply Kd.R_drewN | apply Kd.R_drew)); exact HO239.out) hb); have n4_ := Aside0.mk (below_step (by repeat (first | (with_reducible first | exact HB.out | apply below_alloc | apply pw_below_drewN | apply below_drew1) | exact HB.out)) hb); clear HO225; clear HO229; clear HO236; clear HO239; clear HB; have HO225 := n0_; have HO229 := n1_; have HO236 := n2_; have HO239 := n3_; have HB := n4_; clear n0_ n1_ n2_ n3_ n4_; (try clear hb); (try clear hb2); (try clear hk); (try clear hi))))
    go_meet
    case rel => exact ⟨_, ((t240 != (t237.length : Int))), (by first | rfl | (simp; done) | (simp [*]; done)), H', ⟨by first | omega | exact Nat.le_refl _⟩, ⟨by (with_reducible repeat (first | apply Kd.R_alloc | apply Kd.R_drewN | apply Kd.R_drew)); exact Kd.R_mono HO225.out (fun _ hk => hk.2)⟩, ⟨by (with_reducible repeat (first | apply Kd.R_alloc | apply Kd.R_drewN | apply Kd.R_drew)); exact Kd.R_mono HO229.out (fun _ hk => hk.2)⟩, ⟨by (with_reducible repeat (first | apply Kd.R_alloc | apply Kd.R_drewN | apply Kd.R_drew)); exact Kd.R_mono HO236.out (fun _ hk => hk.2)⟩, ⟨by (with_reducible repeat (first | apply Kd.R_alloc | apply Kd.R_drewN | apply Kd.R_drew)); exact Kd.R_mono HO239.out (fun _ hk => hk.2)⟩, ⟨by repeat (first | (with_reducible first | exact HB.out | apply below_alloc | apply pw_below_drewN | apply below_drew1) | exact HB.out)⟩⟩
   ·rw [if_neg c20] at H
    have c20b0 : ((t234.length : Int) == (t237.length : Int)) = false := beq_eq_false_iff_ne.mpr c20
    have c20b1 : ((t234.length : Int) != (t237.length : Int)) = true := bne_iff_ne.mpr c20
    have c20b2 : (t234.length == t237.length) = false := by first | simpa using c20 | (simp at c20 ⊢; omega)
    (first | rw [c20b0] | (simp only [i64_w, i32_w]; rw [c20b0]) | skip)
    have H' := Aside0.mk H
    clear H
    obtain ⟨Ao25, co25, eo25⟩ := Kd.R_slice HO236.out
    subst eo25
    obtain ⟨Ao26, co26, eo26⟩ := Kd.R_slice HO239.out
    subst eo26
    go_wp2
    repeat (go_quiet (fail); try go_wp2)
    go_meet
    case rel => exact ⟨_, (true), (by first | rfl | (simp; done) | (simp [*]; done)), H', ⟨by first | omega | exact Nat.le_refl _⟩, ⟨by (with_reducible repeat (first | apply Kd.R_alloc | apply Kd.R_drewN | apply Kd.R_drew)); exact Kd.R_mono HO225.out (fun _ hk => hk.2)⟩, ⟨by (with_reducible repeat (first | apply Kd.R_alloc | apply Kd.R_drewN | apply Kd.R_drew)); exact Kd.R_mono HO229.out (fun _ hk => hk.2)⟩, ⟨by (with_reducible repeat (first | apply Kd.R_alloc | apply Kd.R_drewN | apply Kd.R_drew)); exact Kd.R_mono HO236.out (fun _ hk => hk.2)⟩, ⟨by (with_reducible repeat (first | apply Kd.R_alloc | apply Kd.R_drewN | apply Kd.R_drew)); exact Kd.R_mono HO239.out (fun _ hk => hk.2)⟩, ⟨by repeat (first | (with_reducible first | exact HB.out | apply below_alloc | apply pw_below_drewN | apply below_drew1) | exact HB.out)⟩⟩
  case rest =>
   clear HC12
   try clear c2
   try clear p2
   try clear c3
   try clear c4
   try clear c4b0
   try clear c4b1
   try clear c20
   try clear c20b0
   try clear c20b1
   try clear c20b2
   obtain ⟨kq, x54_11, rfl, HA, HJ11, HO_6, HO_8, HO_14, HO_15, HB⟩ := hcut
   cases kq with
   | zero => exact absurd HA.out (by simp [hornbooklaw14_GlyphIs.j0])
   | succ kj11 =>
    have H := HA.out
    clear HA
    simp only [hornbooklaw14_GlyphIs.j0] at H
    by_cases c27 : x54_11 = true
    ·subst c27
     have H1 : (some false) = some r := by rw [if_pos rfl] at H; exact H
     clear H
     have H := H1
     clear H1
     obtain rfl := Option.some.inj H
     go_wp2
     repeat (go_quiet (fail); try go_wp2)
     go_ret
     exact ⟨by first | rfl | (simp [errW_none, errW_some] <;> rfl) | (simp [*, errW_none, errW_some] <;> rfl), by repeat (first | (with_reducible first | exact HB.out | apply below_alloc | apply pw_below_drewN | apply below_drew1) | exact HB.out)⟩
    ·replace c27 := Bool.eq_false_iff.mpr c27
     subst c27
     have H1 : (hornbooklaw14_GlyphIs.l0 kj11 t221 t222 t223 t226 t227 t230 t231 t232 t233 t234 t237 0) = some r := by rw [if_neg (show ¬ (false = true) by decide)] at H; exact H
     clear H
     have H := H1
     clear H1
     have H' := Aside0.mk H
     clear H
     go_wp2
     repeat (go_quiet (fail); try go_wp2)
     go_loopg [16] kj11 (fun kq v16 w' => ∃ (x16_2 : Int), v16 = .int .i64 x16_2 ∧ Aside0 (hornbooklaw14_GlyphIs.l0 kq t221 t222 t223 t226 t227 t230 t231 t232 t233 t234 t237 x16_2 = some r) ∧ Aside0 (kq ≤ kj11) ∧ Aside0 (Kd.R (Kd.int .i64) 3 w' w.heap.size (fun k_ => some k_ ≠ (v228 : Value).ownBlock) v224 t222) ∧ Aside0 (Kd.R (Kd.int .i64) 3 w' w.heap.size (fun k_ => some k_ ≠ (v224 : Value).ownBlock) v228 t226) ∧ Aside0 (Kd.R Kd.string 9 w' w.heap.size (fun k_ => some k_ ≠ (v238 : Value).ownBlock) v235 t234) ∧ Aside0 (Kd.R Kd.string 9 w' w.heap.size (fun k_ => some k_ ≠ (v235 : Value).ownBlock) v238 t237) ∧ Aside0 (Below w.heap.size w w'))
     case atStart => exact ⟨(0), (by first | rfl | (simp; done) | (simp [*]; done)), H', ⟨Nat.le_refl _⟩, ⟨by (with_reducible repeat (first | apply Kd.R_alloc | apply Kd.R_drewN | apply Kd.R_drew)); exact HO_6.out⟩, ⟨by (with_reducible repeat (first | apply Kd.R_alloc | apply Kd.R_drewN | apply Kd.R_drew)); exact HO_8.out⟩, ⟨by (with_reducible repeat (first | apply Kd.R_alloc | apply Kd.R_drewN | apply Kd.R_drew)); exact HO_14.out⟩, ⟨by (with_reducible repeat (first | apply Kd.R_alloc | apply Kd.R_drewN | apply Kd.R_drew)); exact HO_15.out⟩, ⟨by repeat (first | (with_reducible first | exact HB.out | apply below_alloc | apply pw_below_drewN | apply below_drew1) | exact HB.out)⟩⟩
     case round =>
      clear H'
      try clear c2
      try clear p2
      try clear c3
      try clear c4
      try clear c4b0
      try clear c4b1
      try clear c20
      try clear c20b0
      try clear c20b1
      try clear c20b2
      try clear c27
      try clear p2
      obtain ⟨x16_2, rfl, HA, HK2, HO_6, HO_8, HO_14, HO_15, HB⟩ := hrel
      cases gk with
      | zero => exact absurd HA.out (by simp [hornbooklaw14_GlyphIs.l0])
      | succ k2 =>
       have H := HA.out
       clear HA
       simp only [hornbooklaw14_GlyphIs.l0] at H
       by_cases c28 : x16_2 < (t234.length : Int)
       ·rw [if_pos c28] at H
        have c28b0 : decide (x16_2 < (t234.length : Int)) = true := decide_eq_true c28
        clear c28
        by_cases c29 : 0 ≤ x16_2
        ·rw [if_pos c29] at H
         have c29b0 : decide (0 ≤ x16_2) = true := decide_eq_true c29
         clear c29
         by_cases c30 : x16_2 < (t237.length : Int)
         ·rw [if_pos c30] at H
          have c30b0 : decide (x16_2 < (t237.length : Int)) = true := decide_eq_true c30
          clear c30
          by_cases c31 : (rdOf ByteArray.empty t234 x16_2).toList = (rdOf ByteArray.empty t237 x16_2).toList
          ·rw [if_pos c31] at H
           have c31b0 : ((rdOf ByteArray.empty t234 x16_2).toList == (rdOf ByteArray.empty t237 x16_2).toList) = true := beq_iff_eq.mpr c31
           have c31b1 : ((rdOf ByteArray.empty t234 x16_2).toList != (rdOf ByteArray.empty t237 x16_2).toList) = false := bne_eq_false_iff_eq.mpr c31
           clear c31
           have H' := Aside0.mk H
           clear H
           obtain ⟨Ao32, co32, eo32⟩ := Kd.R_slice HO_14.out
           subst eo32
           have p241 : 0 ≤ (x16_2 : Int) := of_decide_eq_true (by first | (with_reducible assumption) | assumption)
           have q241 : x16_2 < (t234.length : Int) := of_decide_eq_true (by first | (with_reducible assumption) | assumption)
           obtain ⟨ad241, e241, hx241_0⟩ := Kd.at_string (Kd.R_reads' HO_14.out).2.2 x16_2 p241 q241
           cases e241
           replace p241 := eq_true p241
           replace q241 := eq_true q241
           obtain ⟨Ao33, co33, eo33⟩ := Kd.R_slice HO_15.out
           subst eo33
           have p242 : 0 ≤ (x16_2 : Int) := of_decide_eq_true (by first | (with_reducible assumption) | assumption)
           have q242 : x16_2 < (t237.length : Int) := of_decide_eq_true (by first | (with_reducible assumption) | assumption)
           obtain ⟨ad242, e242, hx242_0⟩ := Kd.at_string (Kd.R_reads' HO_15.out).2.2 x16_2 p242 q242
           cases e242
           replace p242 := eq_true p242
           replace q242 := eq_true q242
           go_wp2
           repeat (go_quiet (fail); try go_wp2)
           go_roundg k2
           case measure => have := HJ11.out; have := HK2.out; omega
           case rel => exact ⟨(wrap64 (x16_2 + 1)), (by first | rfl | (simp; done) | (simp [*]; done)), H', ⟨by have := HJ11.out; have := HK2.out; omega⟩, ⟨by (with_reducible repeat (first | apply Kd.R_alloc | apply Kd.R_drewN | apply Kd.R_drew)); exact HO_6.out⟩, ⟨by (with_reducible repeat (first | apply Kd.R_alloc | apply Kd.R_drewN | apply Kd.R_drew)); exact HO_8.out⟩, ⟨by (with_reducible repeat (first | apply Kd.R_alloc | apply Kd.R_drewN | apply Kd.R_drew)); exact HO_14.out⟩, ⟨by (with_reducible repeat (first | apply Kd.R_alloc | apply Kd.R_drewN | apply Kd.R_drew)); exact HO_15.out⟩, ⟨by repeat (first | (with_reducible first | exact HB.out | apply below_alloc | apply pw_below_drewN | apply below_drew1) | exact HB.out)⟩⟩
          ·rw [if_neg c31] at H
           have c31b0 : ((rdOf ByteArray.empty t234 x16_2).toList == (rdOf ByteArray.empty t237 x16_2).toList) = false := beq_eq_false_iff_ne.mpr c31
           have c31b1 : ((rdOf ByteArray.empty t234 x16_2).toList != (rdOf ByteArray.empty t237 x16_2).toList) = true := bne_iff_ne.mpr c31
           obtain rfl := Option.some.inj H
           obtain ⟨Ao34, co34, eo34⟩ := Kd.R_slice HO_14.out
           subst eo34
           have p241 : 0 ≤ (x16_2 : Int) := of_decide_eq_true (by first | (with_reducible assumption) | assumption)
           have q241 : x16_2 < (t234.length : Int) := of_decide_eq_true (by first | (with_reducible assumption) | assumption)
           obtain ⟨ad241, e241, hx241_0⟩ := Kd.at_string (Kd.R_reads' HO_14.out).2.2 x16_2 p241 q241
           cases e241
           replace p241 := eq_true p241
           replace q241 := eq_true q241
           obtain ⟨Ao35, co35, eo35⟩ := Kd.R_slice HO_15.out
           subst eo35
           have p242 : 0 ≤ (x16_2 : Int) := of_decide_eq_true (by first | (with_reducible assumption) | assumption)
           have q242 : x16_2 < (t237.length : Int) := of_decide_eq_true (by first | (with_reducible assumption) | assumption)
           obtain ⟨ad242, e242, hx242_0⟩ := Kd.at_string (Kd.R_reads' HO_15.out).2.2 x16_2 p242 q242
           cases e242
           replace p242 := eq_true p242
           replace q242 := eq_true q242
           go_wp2
           repeat (go_quiet (fail); try go_wp2)
           go_ret
           exact ⟨by first | rfl | (simp [errW_none, errW_some] <;> rfl) | (simp [*, errW_none, errW_some] <;> rfl), by repeat (first | (with_reducible first | exact HB.out | apply below_alloc | apply pw_below_drewN | apply below_drew1) | exact HB.out)⟩
         ·rw [if_neg c30] at H
          exact absurd H (by simp)
        ·rw [if_neg c29] at H
         exact absurd H (by simp)
       ·rw [if_neg c28] at H
        have c28b0 : decide (x16_2 < (t234.length : Int)) = false := decide_eq_false c28
        clear c28
        by_cases c36 : t221 = true
        ·subst c36
         have H1 : ((hornbookref02_Same.f k2 t222 t226).bind fun t243 => (if t243 = true then (if t223 = true then (if t227 = true then (if t230.toList = t232.toList then (if t231 = true then (some t233) else (some (!t233))) else (some false)) else (some false)) else (if t227 = true then (some false) else (if t230.toList = t232.toList then (if t231 = true then (some t233) else (some (!t233))) else (some false)))) else (some false))) = some r := by rw [if_pos rfl] at H; exact H
         clear H
         have H := H1
         clear H1
         replace H := Option.bind_eq_some_iff.mp H
         obtain ⟨t243, A370, H⟩ := H
         replace H : (if t243 = true then (if t223 = true then (if t227 = true then (if t230.toList = t232.toList then (if t231 = true then (some t233) else (some (!t233))) else (some false)) else (some false)) else (if t227 = true then (some false) else (if t230.toList = t232.toList then (if t231 = true then (some t233) else (some (!t233))) else (some false)))) else (some false)) = some r := H
         have A37 := Aside0.mk A370
         clear A370
         by_cases c38 : t243 = true
         ·subst c38
          have H1 : (if t223 = true then (if t227 = true then (if t230.toList = t232.toList then (if t231 = true then (some t233) else (some (!t233))) else (some false)) else (some false)) else (if t227 = true then (some false) else (if t230.toList = t232.toList then (if t231 = true then (some t233) else (some (!t233))) else (some false)))) = some r := by rw [if_pos rfl] at H; exact H
          clear H
          have H := H1
          clear H1
          by_cases c39 : t223 = true
          ·subst c39
           have H1 : (if t227 = true then (if t230.toList = t232.toList then (if t231 = true then (some t233) else (some (!t233))) else (some false)) else (some false)) = some r := by rw [if_pos rfl] at H; exact H
           clear H
           have H := H1
           clear H1
           by_cases c40 : t227 = true
           ·subst c40
            have H1 : (if t230.toList = t232.toList then (if t231 = true then (some t233) else (some (!t233))) else (some false)) = some r := by rw [if_pos rfl] at H; exact H
            clear H
            have H := H1
            clear H1
            by_cases c41 : t230.toList = t232.toList
            ·rw [if_pos c41] at H
             have c41b0 : (t230.toList == t232.toList) = true := beq_iff_eq.mpr c41
             have c41b1 : (t230.toList != t232.toList) = false := bne_eq_false_iff_eq.mpr c41
             clear c41
             by_cases c42 : t231 = true
             ·subst c42
              have H1 : (some t233) = some r := by rw [if_pos rfl] at H; exact H
              clear H
              have H := H1
              clear H1
              obtain rfl := Option.some.inj H
              obtain ⟨Ao43, co43, eo43⟩ := Kd.R_slice HO_14.out
              subst eo43
              obtain ⟨Ao44, co44, eo44⟩ := Kd.R_slice HO_6.out
              subst eo44
              obtain ⟨Ao45, co45, eo45⟩ := Kd.R_slice HO_8.out
              subst eo45
              go_wp2_with (first | (go_at_call 14; (with_reducible refine (hornbookref02_Same.calls k2 _ _ t222 _ _ t226 true _ ?side1 ?side2 ?side3 ?side4 A37.out).mono ?_); (case side1 => repeat (first | exact (Kd.R_reads' HO_6.out).2.2 | (with_reducible refine Kd.C_alloc ?_ _) | (with_reducible refine Kd.C_drewN ?_ _) | (with_reducible refine Kd.C_drew ?_))); (case side2 => exact (Kd.R_reads' HO_6.out).2.1); (case side3 => repeat (first | exact (Kd.R_reads' HO_8.out).2.2 | (with_reducible refine Kd.C_alloc ?_ _) | (with_reducible refine Kd.C_drewN ?_ _) | (with_reducible refine Kd.C_drew ?_))); (case side4 => exact (Kd.R_reads' HO_8.out).2.1); rintro e w' ⟨rfl, ⟨nd, rfl⟩⟩; (try first | exact ⟨rfl, _, World.drewN_drewN _ _ _⟩ | exact ⟨rfl, _, Eq.trans (World.drewN_drewN _ _ _) (congrArg (World.drewN _) (Nat.add_assoc _ _ _))⟩)))
              repeat (go_quiet (first | (go_at_call 14; (with_reducible refine (hornbookref02_Same.calls k2 _ _ t222 _ _ t226 true _ ?side1 ?side2 ?side3 ?side4 A37.out).mono ?_); (case side1 => repeat (first | exact (Kd.R_reads' HO_6.out).2.2 | (with_reducible refine Kd.C_alloc ?_ _) | (with_reducible refine Kd.C_drewN ?_ _) | (with_reducible refine Kd.C_drew ?_))); (case side2 => exact (Kd.R_reads' HO_6.out).2.1); (case side3 => repeat (first | exact (Kd.R_reads' HO_8.out).2.2 | (with_reducible refine Kd.C_alloc ?_ _) | (with_reducible refine Kd.C_drewN ?_ _) | (with_reducible refine Kd.C_drew ?_))); (case side4 => exact (Kd.R_reads' HO_8.out).2.1); rintro e w' ⟨rfl, ⟨nd, rfl⟩⟩; (try first | exact ⟨rfl, _, World.drewN_drewN _ _ _⟩ | exact ⟨rfl, _, Eq.trans (World.drewN_drewN _ _ _) (congrArg (World.drewN _) (Nat.add_assoc _ _ _))⟩))); try go_wp2_with (first | (go_at_call 14; (with_reducible refine (hornbookref02_Same.calls k2 _ _ t222 _ _ t226 true _ ?side1 ?side2 ?side3 ?side4 A37.out).mono ?_); (case side1 => repeat (first | exact (Kd.R_reads' HO_6.out).2.2 | (with_reducible refine Kd.C_alloc ?_ _) | (with_reducible refine Kd.C_drewN ?_ _) | (with_reducible refine Kd.C_drew ?_))); (case side2 => exact (Kd.R_reads' HO_6.out).2.1); (case side3 => repeat (first | exact (Kd.R_reads' HO_8.out).2.2 | (with_reducible refine Kd.C_alloc ?_ _) | (with_reducible refine Kd.C_drewN ?_ _) | (with_reducible refine Kd.C_drew ?_))); (case side4 => exact (Kd.R_reads' HO_8.out).2.1); rintro e w' ⟨rfl, ⟨nd, rfl⟩⟩; (try first | exact ⟨rfl, _, World.drewN_drewN _ _ _⟩ | exact ⟨rfl, _, Eq.trans (World.drewN_drewN _ _ _) (congrArg (World.drewN _) (Nat.add_assoc _ _ _))⟩))))
              go_ret
              exact ⟨by first | rfl | (simp [errW_none, errW_some] <;> rfl) | (simp [*, errW_none, errW_some] <;> rfl), by repeat (first | (with_reducible first | exact HB.out | apply below_alloc | apply pw_below_drewN | apply below_drew1) | exact HB.out)⟩
             ·replace c42 := Bool.eq_false_iff.mpr c42
              subst c42
              have H1 : (some (!t233)) = some r := by rw [if_neg (show ¬ (false = true) by decide)] at H; exact H
              clear H
              have H := H1
              clear H1
              obtain rfl := Option.some.inj H
              obtain ⟨Ao46, co46, eo46⟩ := Kd.R_slice HO_14.out
              subst eo46
              obtain ⟨Ao47, co47, eo47⟩ := Kd.R_slice HO_6.out
              subst eo47
              obtain ⟨Ao48, co48, eo48⟩ := Kd.R_slice HO_8.out
              subst eo48
              go_wp2_with (first | (go_at_call 14; (with_reducible refine (hornbookref02_Same.calls k2 _ _ t222 _ _ t226 true _ ?side1 ?side2 ?side3 ?side4 A37.out).mono ?_); (case side1 => repeat (first | exact (Kd.R_reads' HO_6.out).2.2 | (with_reducible refine Kd.C_alloc ?_ _) | (with_reducible refine Kd.C_drewN ?_ _) | (with_reducible refine Kd.C_drew ?_))); (case side2 => exact (Kd.R_reads' HO_6.out).2.1); (case side3 => repeat (first | exact (Kd.R_reads' HO_8.out).2.2 | (with_reducible refine Kd.C_alloc ?_ _) | (with_reducible refine Kd.C_drewN ?_ _) | (with_reducible refine Kd.C_drew ?_))); (case side4 => exact (Kd.R_reads' HO_8.out).2.1); rintro e w' ⟨rfl, ⟨nd, rfl⟩⟩; (try first | exact ⟨rfl, _, World.drewN_drewN _ _ _⟩ | exact ⟨rfl, _, Eq.trans (World.drewN_drewN _ _ _) (congrArg (World.drewN _) (Nat.add_assoc _ _ _))⟩)))
              repeat (go_quiet (first | (go_at_call 14; (with_reducible refine (hornbookref02_Same.calls k2 _ _ t222 _ _ t226 true _ ?side1 ?side2 ?side3 ?side4 A37.out).mono ?_); (case side1 => repeat (first | exact (Kd.R_reads' HO_6.out).2.2 | (with_reducible refine Kd.C_alloc ?_ _) | (with_reducible refine Kd.C_drewN ?_ _) | (with_reducible refine Kd.C_drew ?_))); (case side2 => exact (Kd.R_reads' HO_6.out).2.1); (case side3 => repeat (first | exact (Kd.R_reads' HO_8.out).2.2 | (with_reducible refine Kd.C_alloc ?_ _) | (with_reducible refine Kd.C_drewN ?_ _) | (with_reducible refine Kd.C_drew ?_))); (case side4 => exact (Kd.R_reads' HO_8.out).2.1); rintro e w' ⟨rfl, ⟨nd, rfl⟩⟩; (try first | exact ⟨rfl, _, World.drewN_drewN _ _ _⟩ | exact ⟨rfl, _, Eq.trans (World.drewN_drewN _ _ _) (congrArg (World.drewN _) (Nat.add_assoc _ _ _))⟩))); try go_wp2_with (first | (go_at_call 14; (with_reducible refine (hornbookref02_Same.calls k2 _ _ t222 _ _ t226 true _ ?side1 ?side2 ?side3 ?side4 A37.out).mono ?_); (case side1 => repeat (first | exact (Kd.R_reads' HO_6.out).2.2 | (with_reducible refine Kd.C_alloc ?_ _) | (with_reducible refine Kd.C_drewN ?_ _) | (with_reducible refine Kd.C_drew ?_))); (case side2 => exact (Kd.R_reads' HO_6.out).2.1); (case side3 => repeat (first | exact (Kd.R_reads' HO_8.out).2.2 | (with_reducible refine Kd.C_alloc ?_ _) | (with_reducible refine Kd.C_drewN ?_ _) | (with_reducible refine Kd.C_drew ?_))); (case side4 => exact (Kd.R_reads' HO_8.out).2.1); rintro e w' ⟨rfl, ⟨nd, rfl⟩⟩; (try first | exact ⟨rfl, _, World.drewN_drewN _ _ _⟩ | exact ⟨rfl, _, Eq.trans (World.drewN_drewN _ _ _) (congrArg (World.drewN _) (Nat.add_assoc _ _ _))⟩))))
              go_ret
              exact ⟨by first | rfl | (simp [errW_none, errW_some] <;> rfl) | (simp [*, errW_none, errW_some] <;> rfl), by repeat (first | (with_reducible first | exact HB.out | apply below_alloc | apply pw_below_drewN | apply below_drew1) | exact HB.out)⟩
            ·rw [if_neg c41] at H
             have c41b0 : (t230.toList == t232.toList) = false := beq_eq_false_iff_ne.mpr c41
             have c41b1 : (t230.toList != t232.toList) = true := bne_iff_ne.mpr c41
             obtain rfl := Option.some.inj H
             obtain ⟨Ao49, co49, eo49⟩ := Kd.R_slice HO_14.out
             subst eo49
             obtain ⟨Ao50, co50, eo50⟩ := Kd.R_slice HO_6.out
             subst eo50
             obtain ⟨Ao51, co51, eo51⟩ := Kd.R_slice HO_8.out
             subst eo51
             go_wp2_with (first | (go_at_call 14; (with_reducible refine (hornbookref02_Same.calls k2 _ _ t222 _ _ t226 true _ ?side1 ?side2 ?side3 ?side4 A37.out).mono ?_); (case side1 => repeat (first | exact (Kd.R_reads' HO_6.out).2.2 | (with_reducible refine Kd.C_alloc ?_ _) | (with_reducible refine Kd.C_drewN ?_ _) | (with_reducible refine Kd.C_drew ?_))); (case side2 => exact (Kd.R_reads' HO_6.out).2.1); (case side3 => repeat (first | exact (Kd.R_reads' HO_8.out).2.2 | (with_reducible refine Kd.C_alloc ?_ _) | (with_reducible refine Kd.C_drewN ?_ _) | (with_reducible refine Kd.C_drew ?_))); (case side4 => exact (Kd.R_reads' HO_8.out).2.1); rintro e w' ⟨rfl, ⟨nd, rfl⟩⟩; (try first | exact ⟨rfl, _, World.drewN_drewN _ _ _⟩ | exact ⟨rfl, _, Eq.trans (World.drewN_drewN _ _ _) (congrArg (World.drewN _) (Nat.add_assoc _ _ _))⟩)))
             repeat (go_quiet (first | (go_at_call 14; (with_reducible refine (hornbookref02_Same.calls k2 _ _ t222 _ _ t226 true _ ?side1 ?side2 ?side3 ?side4 A37.out).mono ?_); (case side1 => repeat (first | exact (Kd.R_reads' HO_6.out).2.2 | (with_reducible refine Kd.C_alloc ?_ _) | (with_reducible refine Kd.C_drewN ?_ _) | (with_reducible refine Kd.C_drew ?_))); (case side2 => exact (Kd.R_reads' HO_6.out).2.1); (case side3 => repeat (first | exact (Kd.R_reads' HO_8.out).2.2 | (with_reducible refine Kd.C_alloc ?_ _) | (with_reducible refine Kd.C_drewN ?_ _) | (with_reducible refine Kd.C_drew ?_))); (case side4 => exact (Kd.R_reads' HO_8.out).2.1); rintro e w' ⟨rfl, ⟨nd, rfl⟩⟩; (try first | exact ⟨rfl, _, World.drewN_drewN _ _ _⟩ | exact ⟨rfl, _, Eq.trans (World.drewN_drewN _ _ _) (congrArg (World.drewN _) (Nat.add_assoc _ _ _))⟩))); try go_wp2_with (first | (go_at_call 14; (with_reducible refine (hornbookref02_Same.calls k2 _ _ t222 _ _ t226 true _ ?side1 ?side2 ?side3 ?side4 A37.out).mono ?_); (case side1 => repeat (first | exact (Kd.R_reads' HO_6.out).2.2 | (with_reducible refine Kd.C_alloc ?_ _) | (with_reducible refine Kd.C_drewN ?_ _) | (with_reducible refine Kd.C_drew ?_))); (case side2 => exact (Kd.R_reads' HO_6.out).2.1); (case side3 => repeat (first | exact (Kd.R_reads' HO_8.out).2.2 | (with_reducible refine Kd.C_alloc ?_ _) | (with_reducible refine Kd.C_drewN ?_ _) | (with_reducible refine Kd.C_drew ?_))); (case side4 => exact (Kd.R_reads' HO_8.out).2.1); rintro e w' ⟨rfl, ⟨nd, rfl⟩⟩; (try first | exact ⟨rfl, _, World.drewN_drewN _ _ _⟩ | exact ⟨rfl, _, Eq.trans (World.drewN_drewN _ _ _) (congrArg (World.drewN _) (Nat.add_assoc _ _ _))⟩))))
             go_ret
             exact ⟨by first | rfl | (simp [errW_none, errW_some] <;> rfl) | (simp [*, errW_none, errW_some] <;> rfl), by repeat (first | (with_reducible first | exact HB.out | apply below_alloc | apply pw_below_drewN | apply below_drew1) | exact HB.out)⟩
           ·replace c40 := Bool.eq_false_iff.mpr c40
            subst c40
            have H1 : (some false) = some r := by rw [if_neg (show ¬ (false = true) by decide)] at H; exact H
            clear H
            have H := H1
            clear H1
            obtain rfl := Option.some.inj H
            obtain ⟨Ao52, co52, eo52⟩ := Kd.R_slice HO_14.out
            subst eo52
            obtain ⟨Ao53, co53, eo53⟩ := Kd.R_slice HO_6.out
            subst eo53
            obtain ⟨Ao54, co54, eo54⟩ := Kd.R_slice HO_8.out
            subst eo54
            go_wp2_with (first | (go_at_call 14; (with_reducible refine (hornbookref02_Same.calls k2 _ _ t222 _ _ t226 true _ ?side1 ?side2 ?side3 ?side4 A37.out).mono ?_); (case side1 => repeat (first | exact (Kd.R_reads' HO_6.out).2.2 | (with_reducible refine Kd.C_alloc ?_ _) | (with_reducible refine Kd.C_drewN ?_ _) | (with_reducible refine Kd.C_drew ?_))); (case side2 => exact (Kd.R_reads' HO_6.out).2.1); (case side3 => repeat (first | exact (Kd.R_reads' HO_8.out).2.2 | (with_reducible refine Kd.C_alloc ?_ _) | (with_reducible refine Kd.C_drewN ?_ _) | (with_reducible refine Kd.C_drew ?_))); (case side4 => exact (Kd.R_reads' HO_8.out).2.1); rintro e w' ⟨rfl, ⟨nd, rfl⟩⟩; (try first | exact ⟨rfl, _, World.drewN_drewN _ _ _⟩ | exact ⟨rfl, _, Eq.trans (World.drewN_drewN _ _ _) (congrArg (World.drewN _) (Nat.add_assoc _ _ _))⟩)))
            repeat (go_quiet (first | (go_at_call 14; (with_reducible refine (hornbookref02_Same.calls k2 _ _ t222 _ _ t226 true _ ?side1 ?side2 ?side3 ?side4 A37.out).mono ?_); (case side1 => repeat (first | exact (Kd.R_reads' HO_6.out).2.2 | (with_reducible refine Kd.C_alloc ?_ _) | (with_reducible refine Kd.C_drewN ?_ _) | (with_reducible refine Kd.C_drew ?_))); (case side2 => exact (Kd.R_reads' HO_6.out).2.1); (case side3 => repeat (first | exact (Kd.R_reads' HO_8.out).2.2 | (with_reducible refine Kd.C_alloc ?_ _) | (with_reducible refine Kd.C_drewN ?_ _) | (with_reducible refine Kd.C_drew ?_))); (case side4 => exact (Kd.R_reads' HO_8.out).2.1); rintro e w' ⟨rfl, ⟨nd, rfl⟩⟩; (try first | exact ⟨rfl, _, World.drewN_drewN _ _ _⟩ | exact ⟨rfl, _, Eq.trans (World.drewN_drewN _ _ _) (congrArg (World.drewN _) (Nat.add_assoc _ _ _))⟩))); try go_wp2_with (first | (go_at_call 14; (with_reducible refine (hornbookref02_Same.calls k2 _ _ t222 _ _ t226 true _ ?side1 ?side2 ?side3 ?side4 A37.out).mono ?_); (case side1 => repeat (first | exact (Kd.R_reads' HO_6.out).2.2 | (with_reducible refine Kd.C_alloc ?_ _) | (with_reducible refine Kd.C_drewN ?_ _) | (with_reducible refine Kd.C_drew ?_))); (case side2 => exact (Kd.R_reads' HO_6.out).2.1); (case side3 => repeat (first | exact (Kd.R_reads' HO_8.out).2.2 | (with_reducible refine Kd.C_alloc ?_ _) | (with_reducible refine Kd.C_drewN ?_ _) | (with_reducible refine Kd.C_drew ?_))); (case side4 => exact (Kd.R_reads' HO_8.out).2.1); rintro e w' ⟨rfl, ⟨nd, rfl⟩⟩; (try first | exact ⟨rfl, _, World.drewN_drewN _ _ _⟩ | exact ⟨rfl, _, Eq.trans (World.drewN_drewN _ _ _) (congrArg (World.drewN _) (Nat.add_assoc _ _ _))⟩))))
            go_ret
            exact ⟨by first | rfl | (simp [errW_none, errW_some] <;> rfl) | (simp [*, errW_none, errW_some] <;> rfl), by repeat (first | (with_reducible first | exact HB.out | apply below_alloc | apply pw_below_drewN | apply below_drew1) | exact HB.out)⟩
          ·replace c39 := Bool.eq_false_iff.mpr c39
           subst c39
           have H1 : (if t227 = true then (some false) else (if t230.toList = t232.toList then (if t231 = true then (some t233) else (some (!t233))) else (some false))) = some r := by rw [if_neg (show ¬ (false = true) by decide)] at H; exact H
           clear H
           have H := H1
           clear H1
           by_cases c55 : t227 = true
           ·subst c55
            have H1 : (some false) = some r := by rw [if_pos rfl] at H; exact H
            clear H
            have H := H1
            clear H1
            obtain rfl := Option.some.inj H
            obtain ⟨Ao56, co56, eo56⟩ := Kd.R_slice HO_14.out
            subst eo56
            obtain ⟨Ao57, co57, eo57⟩ := Kd.R_slice HO_6.out
            subst eo57
            obtain ⟨Ao58, co58, eo58⟩ := Kd.R_slice HO_8.out
            subst eo58
            go_wp2_with (first | (go_at_call 14; (with_reducible refine (hornbookref02_Same.calls k2 _ _ t222 _ _ t226 true _ ?side1 ?side2 ?side3 ?side4 A37.out).mono ?_); (case side1 => repeat (first | exact (Kd.R_reads' HO_6.out).2.2 | (with_reducible refine Kd.C_alloc ?_ _) | (with_reducible refine Kd.C_drewN ?_ _) | (with_reducible refine Kd.C_drew ?_))); (case side2 => exact (Kd.R_reads' HO_6.out).2.1); (case side3 => repeat (first | exact (Kd.R_reads' HO_8.out).2.2 | (with_reducible refine Kd.C_alloc ?_ _) | (with_reducible refine Kd.C_drewN ?_ _) | (with_reducible refine Kd.C_drew ?_))); (case side4 => exact (Kd.R_reads' HO_8.out).2.1); rintro e w' ⟨rfl, ⟨nd, rfl⟩⟩; (try first | exact ⟨rfl, _, World.drewN_drewN _ _ _⟩ | exact ⟨rfl, _, Eq.trans (World.drewN_drewN _ _ _) (congrArg (World.drewN _) (Nat.add_assoc _ _ _))⟩)))
            repeat (go_quiet (first | (go_at_call 14; (with_reducible refine (hornbookref02_Same.calls k2 _ _ t222 _ _ t226 true _ ?side1 ?side2 ?side3 ?side4 A37.out).mono ?_); (case side1 => repeat (first | exact (Kd.R_reads' HO_6.out).2.2 | (with_reducible refine Kd.C_alloc ?_ _) | (with_reducible refine Kd.C_drewN ?_ _) | (with_reducible refine Kd.C_drew ?_))); (case side2 => exact (Kd.R_reads' HO_6.out).2.1); (case side3 => repeat (first | exact (Kd.R_reads' HO_8.out).2.2 | (with_reducible refine Kd.C_alloc ?_ _) | (with_reducible refine Kd.C_drewN ?_ _) | (with_reducible refine Kd.C_drew ?_))); (case side4 => exact (Kd.R_reads' HO_8.out).2.1); rintro e w' ⟨rfl, ⟨nd, rfl⟩⟩; (try first | exact ⟨rfl, _, World.drewN_drewN _ _ _⟩ | exact ⟨rfl, _, Eq.trans (World.drewN_drewN _ _ _) (congrArg (World.drewN _) (Nat.add_assoc _ _ _))⟩))); try go_wp2_with (first | (go_at_call 14; (with_reducible refine (hornbookref02_Same.calls k2 _ _ t222 _ _ t226 true _ ?side1 ?side2 ?side3 ?side4 A37.out).mono ?_); (case side1 => repeat (first | exact (Kd.R_reads' HO_6.out).2.2 | (with_reducible refine Kd.C_alloc ?_ _) | (with_reducible refine Kd.C_drewN ?_ _) | (with_reducible refine Kd.C_drew ?_))); (case side2 => exact (Kd.R_reads' HO_6.out).2.1); (case side3 => repeat (first | exact (Kd.R_reads' HO_8.out).2.2 | (with_reducible refine Kd.C_alloc ?_ _) | (with_reducible refine Kd.C_drewN ?_ _) | (with_reducible refine Kd.C_drew ?_))); (case side4 => exact (Kd.R_reads' HO_8.out).2.1); rintro e w' ⟨rfl, ⟨nd, rfl⟩⟩; (try first | exact ⟨rfl, _, World.drewN_drewN _ _ _⟩ | exact ⟨rfl, _, Eq.trans (World.drewN_drewN _ _ _) (congrArg (World.drewN _) (Nat.add_assoc _ _ _))⟩))))
            go_ret
            exact ⟨by first | rfl | (simp [errW_none, errW_some] <;> rfl) | (simp [*, errW_none, errW_some] <;> rfl), by repeat (first | (with_reducible first | exact HB.out | apply below_alloc | apply pw_below_drewN | apply below_drew1) | exact HB.out)⟩
           ·replace c55 := Bool.eq_false_iff.mpr c55
            subst c55
            have H1 : (if t230.toList = t232.toList then (if t231 = true then (some t233) else (some (!t233))) else (some false)) = some r := by rw [if_neg (show ¬ (false = true) by decide)] at H; exact H
            clear H
            have H := H1
            clear H1
            by_cases c59 : t230.toList = t232.toList
            ·rw [if_pos c59] at H
             have c59b0 : (t230.toList == t232.toList) = true := beq_iff_eq.mpr c59
             have c59b1 : (t230.toList != t232.toList) = false := bne_eq_false_iff_eq.mpr c59
             clear c59
             by_cases c60 : t231 = true
             ·subst c60
              have H1 : (some t233) = some r := by rw [if_pos rfl] at H; exact H
              clear H
              have H := H1
              clear H1
              obtain rfl := Option.some.inj H
              obtain ⟨Ao61, co61, eo61⟩ := Kd.R_slice HO_14.out
              subst eo61
              obtain ⟨Ao62, co62, eo62⟩ := Kd.R_slice HO_6.out
              subst eo62
              obtain ⟨Ao63, co63, eo63⟩ := Kd.R_slice HO_8.out
              subst eo63
              go_wp2_with (first | (go_at_call 14; (with_reducible refine (hornbookref02_Same.calls k2 _ _ t222 _ _ t226 true _ ?side1 ?side2 ?side3 ?side4 A37.out).mono ?_); (case side1 => repeat (first | exact (Kd.R_reads' HO_6.out).2.2 | (with_reducible refine Kd.C_alloc ?_ _) | (with_reducible refine Kd.C_drewN ?_ _) | (with_reducible refine Kd.C_drew ?_))); (case side2 => exact (Kd.R_reads' HO_6.out).2.1); (case side3 => repeat (first | exact (Kd.R_reads' HO_8.out).2.2 | (with_reducible refine Kd.C_alloc ?_ _) | (with_reducible refine Kd.C_drewN ?_ _) | (with_reducible refine Kd.C_drew ?_))); (case side4 => exact (Kd.R_reads' HO_8.out).2.1); rintro e w' ⟨rfl, ⟨nd, rfl⟩⟩; (try first | exact ⟨rfl, _, World.drewN_drewN _ _ _⟩ | exact ⟨rfl, _, Eq.trans (World.drewN_drewN _ _ _) (congrArg (World.drewN _) (Nat.add_assoc _ _ _))⟩)))
              repeat (go_quiet (first | (go_at_call 14; (with_reducible refine (hornbookref02_Same.calls k2 _ _ t222 _ _ t226 true _ ?side1 ?side2 ?side3 ?side4 A37.out).mono ?_); (case side1 => repeat (first | exact (Kd.R_reads' HO_6.out).2.2 | (with_reducible refine Kd.C_alloc ?_ _) | (with_reducible refine Kd.C_drewN ?_ _) | (with_reducible refine Kd.C_drew ?_))); (case side2 => exact (Kd.R_reads' HO_6.out).2.1); (case side3 => repeat (first | exact (Kd.R_reads' HO_8.out).2.2 | (with_reducible refine Kd.C_alloc ?_ _) | (with_reducible refine Kd.C_drewN ?_ _) | (with_reducible refine Kd.C_drew ?_))); (case side4 => exact (Kd.R_reads' HO_8.out).2.1); rintro e w' ⟨rfl, ⟨nd, rfl⟩⟩; (try first | exact ⟨rfl, _, World.drewN_drewN _ _ _⟩ | exact ⟨rfl, _, Eq.trans (World.drewN_drewN _ _ _) (congrArg (World.drewN _) (Nat.add_assoc _ _ _))⟩))); try go_wp2_with (first | (go_at_call 14; (with_reducible refine (hornbookref02_Same.calls k2 _ _ t222 _ _ t226 true _ ?side1 ?side2 ?side3 ?side4 A37.out).mono ?_); (case side1 => repeat (first | exact (Kd.R_reads' HO_6.out).2.2 | (with_reducible refine Kd.C_alloc ?_ _) | (with_reducible refine Kd.C_drewN ?_ _) | (with_reducible refine Kd.C_drew ?_))); (case side2 => exact (Kd.R_reads' HO_6.out).2.1); (case side3 => repeat (first | exact (Kd.R_reads' HO_8.out).2.2 | (with_reducible refine Kd.C_alloc ?_ _) | (with_reducible refine Kd.C_drewN ?_ _) | (with_reducible refine Kd.C_drew ?_))); (case side4 => exact (Kd.R_reads' HO_8.out).2.1); rintro e w' ⟨rfl, ⟨nd, rfl⟩⟩; (try first | exact ⟨rfl, _, World.drewN_drewN _ _ _⟩ | exact ⟨rfl, _, Eq.trans (World.drewN_drewN _ _ _) (congrArg (World.drewN _) (Nat.add_assoc _ _ _))⟩))))
              go_ret
              exact ⟨by first | rfl | (simp [errW_none, errW_some] <;> rfl) | (simp [*, errW_none, errW_some] <;> rfl), by repeat (first | (with_reducible first | exact HB.out | apply below_alloc | apply pw_below_drewN | apply below_drew1) | exact HB.out)⟩
             ·replace c60 := Bool.eq_false_iff.mpr c60
              subst c60
              have H1 : (some (!t233)) = some r := by rw [if_neg (show ¬ (false = true) by decide)] at H; exact H
              clear H
              have H := H1
              clear H1
              obtain rfl := Option.some.inj H
              obtain ⟨Ao64, co64, eo64⟩ := Kd.R_slice HO_14.out
              subst eo64
              obtain ⟨Ao65, co65, eo65⟩ := Kd.R_slice HO_6.out
              subst eo65
              obtain ⟨Ao66, co66, eo66⟩ := Kd.R_slice HO_8.out
              subst eo66
              go_wp2_with (first | (go_at_call 14; (with_reducible refine (hornbookref02_Same.calls k2 _ _ t222 _ _ t226 true _ ?side1 ?side2 ?side3 ?side4 A37.out).mono ?_); (case side1 => repeat (first | exact (Kd.R_reads' HO_6.out).2.2 | (with_reducible refine Kd.C_alloc ?_ _) | (with_reducible refine Kd.C_drewN ?_ _) | (with_reducible refine Kd.C_drew ?_))); (case side2 => exact (Kd.R_reads' HO_6.out).2.1); (case side3 => repeat (first | exact (Kd.R_reads' HO_8.out).2.2 | (with_reducible refine Kd.C_alloc ?_ _) | (with_reducible refine Kd.C_drewN ?_ _) | (with_reducible refine Kd.C_drew ?_))); (case side4 => exact (Kd.R_reads' HO_8.out).2.1); rintro e w' ⟨rfl, ⟨nd, rfl⟩⟩; (try first | exact ⟨rfl, _, World.drewN_drewN _ _ _⟩ | exact ⟨rfl, _, Eq.trans (World.drewN_drewN _ _ _) (congrArg (World.drewN _) (Nat.add_assoc _ _ _))⟩)))
              repeat (go_quiet (first | (go_at_call 14; (with_reducible refine (hornbookref02_Same.calls k2 _ _ t222 _ _ t226 true _ ?side1 ?side2 ?side3 ?side4 A37.out).mono ?_); (case side1 => repeat (first | exact (Kd.R_reads' HO_6.out).2.2 | (with_reducible refine Kd.C_alloc ?_ _) | (with_reducible refine Kd.C_drewN ?_ _) | (with_reducible refine Kd.C_drew ?_))); (case side2 => exact (Kd.R_reads' HO_6.out).2.1); (case side3 => repeat (first | exact (Kd.R_reads' HO_8.out).2.2 | (with_reducible refine Kd.C_alloc ?_ _) | (with_reducible refine Kd.C_drewN ?_ _) | (with_reducible refine Kd.C_drew ?_))); (case side4 => exact (Kd.R_reads' HO_8.out).2.1); rintro e w' ⟨rfl, ⟨nd, rfl⟩⟩; (try first | exact ⟨rfl, _, World.drewN_drewN _ _ _⟩ | exact ⟨rfl, _, Eq.trans (World.drewN_drewN _ _ _) (congrArg (World.drewN _) (Nat.add_assoc _ _ _))⟩))); try go_wp2_with (first | (go_at_call 14; (with_reducible refine (hornbookref02_Same.calls k2 _ _ t222 _ _ t226 true _ ?side1 ?side2 ?side3 ?side4 A37.out).mono ?_); (case side1 => repeat (first | exact (Kd.R_reads' HO_6.out).2.2 | (with_reducible refine Kd.C_alloc ?_ _) | (with_reducible refine Kd.C_drewN ?_ _) | (with_reducible refine Kd.C_drew ?_))); (case side2 => exact (Kd.R_reads' HO_6.out).2.1); (case side3 => repeat (first | exact (Kd.R_reads' HO_8.out).2.2 | (with_reducible refine Kd.C_alloc ?_ _) | (with_reducible refine Kd.C_drewN ?_ _) | (with_reducible refine Kd.C_drew ?_))); (case side4 => exact (Kd.R_reads' HO_8.out).2.1); rintro e w' ⟨rfl, ⟨nd, rfl⟩⟩; (try first | exact ⟨rfl, _, World.drewN_drewN _ _ _⟩ | exact ⟨rfl, _, Eq.trans (World.drewN_drewN _ _ _) (congrArg (World.drewN _) (Nat.add_assoc _ _ _))⟩))))
              go_ret
              exact ⟨by first | rfl | (simp [errW_none, errW_some] <;> rfl) | (simp [*, errW_none, errW_some] <;> rfl), by repeat (first | (with_reducible first | exact HB.out | apply below_alloc | apply pw_below_drewN | apply below_drew1) | exact HB.out)⟩
            ·rw [if_neg c59] at H
             have c59b0 : (t230.toList == t232.toList) = false := beq_eq_false_iff_ne.mpr c59
             have c59b1 : (t230.toList != t232.toList) = true := bne_iff_ne.mpr c59
             obtain rfl := Option.some.inj H
             obtain ⟨Ao67, co67, eo67⟩ := Kd.R_slice HO_14.out
             subst eo67
             obtain ⟨Ao68, co68, eo68⟩ := Kd.R_slice HO_6.out
             subst eo68
             obtain ⟨Ao69, co69, eo69⟩ := Kd.R_slice HO_8.out
             subst eo69
             go_wp2_with (first | (go_at_call 14; (with_reducible refine (hornbookref02_Same.calls k2 _ _ t222 _ _ t226 true _ ?side1 ?side2 ?side3 ?side4 A37.out).mono ?_); (case side1 => repeat (first | exact (Kd.R_reads' HO_6.out).2.2 | (with_reducible refine Kd.C_alloc ?_ _) | (with_reducible refine Kd.C_drewN ?_ _) | (with_reducible refine Kd.C_drew ?_))); (case side2 => exact (Kd.R_reads' HO_6.out).2.1); (case side3 => repeat (first | exact (Kd.R_reads' HO_8.out).2.2 | (with_reducible refine Kd.C_alloc ?_ _) | (with_reducible refine Kd.C_drewN ?_ _) | (with_reducible refine Kd.C_drew ?_))); (case side4 => exact (Kd.R_reads' HO_8.out).2.1); rintro e w' ⟨rfl, ⟨nd, rfl⟩⟩; (try first | exact ⟨rfl, _, World.drewN_drewN _ _ _⟩ | exact ⟨rfl, _, Eq.trans (World.drewN_drewN _ _ _) (congrArg (World.drewN _) (Nat.add_assoc _ _ _))⟩)))
             repeat (go_quiet (first | (go_at_call 14; (with_reducible refine (hornbookref02_Same.calls k2 _ _ t222 _ _ t226 true _ ?side1 ?side2 ?side3 ?side4 A37.out).mono ?_); (case side1 => repeat (first | exact (Kd.R_reads' HO_6.out).2.2 | (with_reducible refine Kd.C_alloc ?_ _) | (with_reducible refine Kd.C_drewN ?_ _) | (with_reducible refine Kd.C_drew ?_))); (case side2 => exact (Kd.R_reads' HO_6.out).2.1); (case side3 => repeat (first | exact (Kd.R_reads' HO_8.out).2.2 | (with_reducible refine Kd.C_alloc ?_ _) | (with_reducible refine Kd.C_drewN ?_ _) | (with_reducible refine Kd.C_drew ?_))); (case side4 => exact (Kd.R_reads' HO_8.out).2.1); rintro e w' ⟨rfl, ⟨nd, rfl⟩⟩; (try first | exact ⟨rfl, _, World.drewN_drewN _ _ _⟩ | exact ⟨rfl, _, Eq.trans (World.drewN_drewN _ _ _) (congrArg (World.drewN _) (Nat.add_assoc _ _ _))⟩))); try go_wp2_with (first | (go_at_call 14; (with_reducible refine (hornbookref02_Same.calls k2 _ _ t222 _ _ t226 true _ ?side1 ?side2 ?side3 ?side4 A37.out).mono ?_); (case side1 => repeat (first | exact (Kd.R_reads' HO_6.out).2.2 | (with_reducible refine Kd.C_alloc ?_ _) | (with_reducible refine Kd.C_drewN ?_ _) | (with_reducible refine Kd.C_drew ?_))); (case side2 => exact (Kd.R_reads' HO_6.out).2.1); (case side3 => repeat (first | exact (Kd.R_reads' HO_8.out).2.2 | (with_reducible refine Kd.C_alloc ?_ _) | (with_reducible refine Kd.C_drewN ?_ _) | (with_reducible refine Kd.C_drew ?_))); (case side4 => exact (Kd.R_reads' HO_8.out).2.1); rintro e w' ⟨rfl, ⟨nd, rfl⟩⟩; (try first | exact ⟨rfl, _, World.drewN_drewN _ _ _⟩ | exact ⟨rfl, _, Eq.trans (World.drewN_drewN _ _ _) (congrArg (World.drewN _) (Nat.add_assoc _ _ _))⟩))))
             go_ret
             exact ⟨by first | rfl | (simp [errW_none, errW_some] <;> rfl) | (simp [*, errW_none, errW_some] <;> rfl), by repeat (first | (with_reducible first | exact HB.out | apply below_alloc | apply pw_below_drewN | apply below_drew1) | exact HB.out)⟩
         ·replace c38 := Bool.eq_false_iff.mpr c38
          subst c38
          have H1 : (some false) = some r := by rw [if_neg (show ¬ (false = true) by decide)] at H; exact H
          clear H
          have H := H1
          clear H1
          obtain rfl := Option.some.inj H
          obtain ⟨Ao70, co70, eo70⟩ := Kd.R_slice HO_14.out
          subst eo70
          obtain ⟨Ao71, co71, eo71⟩ := Kd.R_slice HO_6.out
          subst eo71
          obtain ⟨Ao72, co72, eo72⟩ := Kd.R_slice HO_8.out
          subst eo72
          go_wp2_with (first | (go_at_call 14; (with_reducible refine (hornbookref02_Same.calls k2 _ _ t222 _ _ t226 false _ ?side1 ?side2 ?side3 ?side4 A37.out).mono ?_); (case side1 => repeat (first | exact (Kd.R_reads' HO_6.out).2.2 | (with_reducible refine Kd.C_alloc ?_ _) | (with_reducible refine Kd.C_drewN ?_ _) | (with_reducible refine Kd.C_drew ?_))); (case side2 => exact (Kd.R_reads' HO_6.out).2.1); (case side3 => repeat (first | exact (Kd.R_reads' HO_8.out).2.2 | (with_reducible refine Kd.C_alloc ?_ _) | (with_reducible refine Kd.C_drewN ?_ _) | (with_reducible refine Kd.C_drew ?_))); (case side4 => exact (Kd.R_reads' HO_8.out).2.1); rintro e w' ⟨rfl, ⟨nd, rfl⟩⟩; (try first | exact ⟨rfl, _, World.drewN_drewN _ _ _⟩ | exact ⟨rfl, _, Eq.trans (World.drewN_drewN _ _ _) (congrArg (World.drewN _) (Nat.add_assoc _ _ _))⟩)))
          repeat (go_quiet (first | (go_at_call 14; (with_reducible refine (hornbookref02_Same.calls k2 _ _ t222 _ _ t226 false _ ?side1 ?side2 ?side3 ?side4 A37.out).mono ?_); (case side1 => repeat (first | exact (Kd.R_reads' HO_6.out).2.2 | (with_reducible refine Kd.C_alloc ?_ _) | (with_reducible refine Kd.C_drewN ?_ _) | (with_reducible refine Kd.C_drew ?_))); (case side2 => exact (Kd.R_reads' HO_6.out).2.1); (case side3 => repeat (first | exact (Kd.R_reads' HO_8.out).2.2 | (with_reducible refine Kd.C_alloc ?_ _) | (with_reducible refine Kd.C_drewN ?_ _) | (with_reducible refine Kd.C_drew ?_))); (case side4 => exact (Kd.R_reads' HO_8.out).2.1); rintro e w' ⟨rfl, ⟨nd, rfl⟩⟩; (try first | exact ⟨rfl, _, World.drewN_drewN _ _ _⟩ | exact ⟨rfl, _, Eq.trans (World.drewN_drewN _ _ _) (congrArg (World.drewN _) (Nat.add_assoc _ _ _))⟩))); try go_wp2_with (first | (go_at_call 14; (with_reducible refine (hornbookref02_Same.calls k2 _ _ t222 _ _ t226 false _ ?side1 ?side2 ?side3 ?side4 A37.out).mono ?_); (case side1 => repeat (first | exact (Kd.R_reads' HO_6.out).2.2 | (with_reducible refine Kd.C_alloc ?_ _) | (with_reducible refine Kd.C_drewN ?_ _) | (with_reducible refine Kd.C_drew ?_))); (case side2 => exact (Kd.R_reads' HO_6.out).2.1); (case side3 => repeat (first | exact (Kd.R_reads' HO_8.out).2.2 | (with_reducible refine Kd.C_alloc ?_ _) | (with_reducible refine Kd.C_drewN ?_ _) | (with_reducible refine Kd.C_drew ?_))); (case side4 => exact (Kd.R_reads' HO_8.out).2.1); rintro e w' ⟨rfl, ⟨nd, rfl⟩⟩; (try first | exact ⟨rfl, _, World.drewN_drewN _ _ _⟩ | exact ⟨rfl, _, Eq.trans (World.drewN_drewN _ _ _) (congrArg (World.drewN _) (Nat.add_assoc _ _ _))⟩))))
          go_ret
          exact ⟨by first | rfl | (simp [errW_none, errW_some] <;> rfl) | (simp [*, errW_none, errW_some] <;> rfl), by repeat (first | (with_reducible first | exact HB.out | apply below_alloc | apply pw_below_drewN | apply below_drew1) | exact HB.out)⟩
        ·replace c36 := Bool.eq_false_iff.mpr c36
         subst c36
         have H1 : (some false) = some r := by rw [if_neg (show ¬ (false = true) by decide)] at H; exact H
         clear H
         have H := H1
         clear H1
         obtain rfl := Option.some.inj H
         obtain ⟨Ao73, co73, eo73⟩ := Kd.R_slice HO_14.out
         subst eo73
         go_wp2
         repeat (go_quiet (fail); try go_wp2)
         go_ret
         exact ⟨by first | rfl | (simp [errW_none, errW_some] <;> rfl) | (simp [*, errW_none, errW_some] <;> rfl), by repeat (first | (with_reducible first | exact HB.out | apply below_alloc | apply pw_below_drewN | apply below_drew1) | exact HB.out)⟩
/-- THE ONE PURE STATEMENT of hornbooklaw14_GlyphIs: yours. -/
def hornbooklaw14_GlyphIs.Pure : Prop := ∀ (a0 : ByteArray) (a1 : Int), a0.size ≤ 140737488351232 → (Lit.int .i64 a1).wf = true → ∃ k, hornbooklaw14_GlyphIs.f k a0 a1 = some true
theorem hornbooklaw14_GlyphIs.walk (P : hornbooklaw14_GlyphIs.Pure) (a0 : ByteArray) (a1 : Int) (w : World) (w0 : a0.size ≤ 140737488351232) (w1 : (Lit.int .i64 a1).wf = true)(hG : GW w) :
  Calls Tryd.prog 3 #[.string a0, .int .i64 a1] w fun e w' => e = .returned (.bool true) ∧ Below w.heap.size w w' := by
 obtain ⟨k, h⟩ := P a0 a1 w0 w1
 refine (hornbooklaw14_GlyphIs.calls k a0 a1 true w hG h).mono ?_
 rintro e w' ⟨rfl, hd⟩
 exact ⟨rfl, hd⟩
end Go.Proofs.YtdbadfcekomomaaDoor.M
end
section
namespace Go.Proofs.YtdbadfcekomomaaDoor.M
open Go Go.RowKit
variable {H : Type} {enc : TypeId × Value → H}
theorem returns_both {a : Assume} {C : Checked} {os : Os} {f : FuncId} {fn : Func} {s : ChangeSpec} {conds : List PathCond} {apart fresh handsOn again : Bool} {X : World → Array Value → Prop}
  (hX : ∀ (w w' : World) (args : Array Value), w.heap = w'.heap → X w args → X w' args)
  (own : ownKnob C.prog.godebug = none) (started : os.Started) (noInit : C.prog.inits.idxOf? f = none) (hfn : C.prog.funcs[f]? = some fn)
  (witness : ∃ (w : World) (tape : Tape) (i : Input), w.os = os ∧ (w.forCall tape i).Shaped C.prog ∧ i.vars = [] ∧ Input.okWide C.prog (w.forCall tape i) .any w.heap.size f i ∧
   ((s.pre enc C.prog fn conds apart (w.forCall tape i).memory i.args ∧ X (w.forCall tape i).memory i.args) ∧ sizedMet enc C.prog fn (OpenSpec.ofChange s) apart (w.forCall tape i).memory i.args) ∧ a.holds C.prog (lone (Frame.enter C.prog f i.args .normal) [] (w.forCall tape i)))
  (contract : ∀ (W : World) (base : Nat) (args : Array Value) (ds gs : List (DataW H)) (before : List MemPlace),
   (∀ (j : Nat) t v, fn.params[j]? = some t → args[j]? = some v → Value.okWide C.prog W .any base t v) →
   DataW.Whole enc C.prog fn.params.toList s.vars apart W args.toList ds gs before →
   conds.all (PathCond.test C.prog ⟨fn.params.toList, ds, s.plain.varTypes C.prog, gs⟩) = true →
   (DataW.weightsEach C.prog (fn.params.toList ++ s.plain.varTypes C.prog) (ds ++ gs)).all (· ≤ reachBytes) = true → X W args → W.ShapedOpen C.prog →
   Calls C.prog f args W fun e W' => ∃ v, e = .returned v ∧ s.post enc C.prog fn apart fresh handsOn again W args v W') :
  ReturnsInHanded a C os f .any (fun w args => (s.pre enc C.prog fn conds apart w args ∧ X w args) ∧ sizedMet enc C.prog fn (OpenSpec.ofChange s) apart w args) (s.post enc C.prog fn apart fresh handsOn again) := by
 refine returnsInHanded_of_calls own started noInit witness ?_
 intro w tape i _ hsh _ hok hpre hholds
 obtain ⟨_, _, _, fn', hfn', _, _, _, _, hval⟩ := hok
 have e : fn' = fn := Option.some.inj (hfn'.symm.trans hfn)
 subst e
 obtain ⟨⟨⟨ds, gs, before, hw, hc⟩, hx⟩, hz⟩ := hpre
 have hw' := DataW.Whole.of_heap (w' := w.forCall tape i) (by rfl) hw
 refine (contract (w.forCall tape i) w.heap.size i.args ds gs before hval hw' hc (hz.weights hw) (hX _ _ _ (by rfl) hx) hsh).mono fun e W' ⟨v, he, hp⟩ => ?_
 subst he
 exact ChangeSpec.post_blind hp
theorem gw_star : "*" ++ "errors.errorString" = "*errors.errorString" := by decide
theorem gw_row (u : TypeId) (h : Tryd.prog.typeName? 3 u = some "*errors.errorString") : u = 129 :=
 typeName_ptr_named (nm := "errors.errorString") (by rw [gw_star]; kernel_rfl) (by kernel_rfl) (by decide) u (by rw [gw_star]; exact h)
/-- Out of a row's 'laid', from the two sentinels on, and the world's shape. -/
theorem GW.of_mets {r1 r2 : List (String × DataW Unit)} {t1 t2 : List UInt8} {W : World}
  (h1 : laidMet Tryd.prog (("strconv.ErrRange", .iface "*errors.errorString" (.ptr (.agg [.lit (.string t1)]))) :: r1) W)
  (h2 : laidMet Tryd.prog (("strconv.ErrSyntax", .iface "*errors.errorString" (.ptr (.agg [.lit (.string t2)]))) :: r2) W)
  {r3 : List (String × DataW Unit)} (h3 : laidMet Tryd.prog (("strings.asciiSpace", Rows.laid_strings_asciiSpace) :: r3) W)
  {r4 : List (String × DataW Unit)} (h4 : laidMet Tryd.prog (("internal/strconv.uint64pow10", Rows.laid_internal_strconv_uint64pow10) :: r4) W)
  (hsh : W.ShapedOpen Tryd.prog) : GW W := by
 obtain ⟨a0, s0, hv0, -, -, -⟩ := laid_sentinel h1 (g := 4) (ti := 51) (by kernel_rfl) (by kernel_rfl) Tryd.underlying51 gw_row Tryd.underlying129 Tryd.underlying131 rfl rfl Tryd.underlying9 (by kernel_rfl) (by kernel_rfl)
 obtain ⟨a1, s1, hv1, -, -, -⟩ := laid_sentinel h2 (g := 3) (ti := 51) (by kernel_rfl) (by kernel_rfl) Tryd.underlying51 gw_row Tryd.underlying129 Tryd.underlying131 rfl rfl Tryd.underlying9 (by kernel_rfl) (by kernel_rfl)
 have c0 := World.var?_cell (P := Tryd.prog) (g := 4) (by kernel_rfl) hv0 0
 have c1 := World.var?_cell (P := Tryd.prog) (g := 3) (by kernel_rfl) hv1 0
 obtain ⟨m, hm⟩ := cell_of_shapedOpen_int (P := Tryd.prog) (g := 2) (t := 3) (zero := #[.int .i64 0]) hsh (of_decide_eq_true (by kernel_rfl)) (by kernel_rfl) rfl (by kernel_rfl) (by kernel_rfl) Tryd.underlying3
 have e3 : (Rows.laid_strings_asciiSpace : DataW Unit) = Lib.tabData .u8 Lib.asciiSpaceTab := by kernel_rfl
 rw [e3] at h3
 have hsp : Lib.TabIs Tryd.prog W "strings.asciiSpace" .u8 Lib.asciiSpaceTab := Lib.tabIs_of_head (g := 0) (by kernel_rfl) (by kernel_rfl) Tryd.underlying64 Tryd.underlying5 (by kernel_rfl) (by kernel_rfl) h3
 have e4 : (Rows.laid_internal_strconv_uint64pow10 : DataW Unit) = Lib.tabData .u64 Lib.pow10Tab := by kernel_rfl
 rw [e4] at h4
 have hpow : Lib.TabIs Tryd.prog W "internal/strconv.uint64pow10" .u64 Lib.pow10Tab := Lib.tabIs_of_head (g := 7) (by kernel_rfl) (by kernel_rfl) Tryd.underlying139 Tryd.underlying98 (by kernel_rfl) (by kernel_rfl) h4
 exact {
  range := ⟨a0, by simpa using c0⟩
  syn := ⟨a1, by simpa using c1⟩
  max := ⟨m, hm⟩
  space := hsp
  pow := hpow
 }
end Go.Proofs.YtdbadfcekomomaaDoor.M
end
section
namespace Go.Proofs.YtdbadfcekomomaaDoor.M
open Go.RowKit Go.Proofs.YtdbadfcekomomaaDoorW.PrintWords
set_option linter.unusedVariables false
def bodyOf : List (List UInt8) → List UInt8
 | [] => []
 | f :: fs => f ++ 32 :: bodyOf fs
def findF (p : List UInt8) : List (List UInt8) → Option (List UInt8)
 | [] => none
 | f :: fs => if p.isPrefixOf f = true then some (f.drop p.length) else findF p fs
theorem index_skip (c : UInt8) (p s : List UInt8) : ∀ f : List UInt8, (∀ b ∈ f, b ≠ c) → Lib.index (f ++ s) (c :: p) = if Lib.index s (c :: p) = -1 then -1 else Lib.index s (c :: p) + f.length
 | [], _ => by
  rw [List.nil_append, List.length_nil]
  split
  ·assumption
  ·omega
 | b :: f, h => by
  have hb : (c == b) = false := by
   rw [beq_eq_false_iff_ne]
   exact fun e => h b List.mem_cons_self e.symm
  have ih := index_skip c p s f (fun x hx => h x (List.mem_cons_of_mem _ hx))
  have hge := Lib.index_ge s (c :: p)
  rw [List.cons_append, Lib.index]
  have hp : (c :: p).isPrefixOf (b :: (f ++ s)) = false := by simp [List.isPrefixOf, hb]
  rw [hp, ih]
  by_cases hn : Lib.index s (c :: p) = -1
  ·simp [hn]
  ·rw [if_neg hn]
   have : (Lib.index s (c :: p) + (f.length : Int) == -1) = false := by rw [beq_eq_false_iff_ne]; omega
   simp only [Bool.false_eq_true, if_false, this, if_neg hn, List.length_cons]
   omega
theorem prefix_field (r : List UInt8) : ∀ (p f : List UInt8), (∀ b ∈ p, b ≠ 32) → p.isPrefixOf (f ++ 32 :: r) = p.isPrefixOf f
 | [], f, _ => by simp [List.isPrefixOf]
 | a :: p, [], h => by
  have : (a == 32) = false := by rw [beq_eq_false_iff_ne]; exact h a List.mem_cons_self
  simp [List.isPrefixOf, this]
 | a :: p, b :: f, h => by
  rw [List.cons_append, List.isPrefixOf, List.isPrefixOf, prefix_field r p f (fun x hx => h x (List.mem_cons_of_mem _ hx))]
theorem idx_fields (p : List UInt8) (hp : ∀ b ∈ p, b ≠ 32) (hne : p ≠ []) : ∀ fs : List (List UInt8), (∀ f ∈ fs, ∀ b ∈ f, b ≠ 32) →
  (findF p fs = none ∧ Lib.index (32 :: bodyOf fs) (32 :: p) = -1) ∨ (∃ h r, ∃ i : Nat, findF p fs = some h ∧ Lib.index (32 :: bodyOf fs) (32 :: p) = i ∧ (32 :: bodyOf fs).drop (i + (p.length + 1)) = h ++ 32 :: r ∧ ∃ f ∈ fs, ∃ q, f = q ++ h)
 | [], _ => by
  refine .inl ⟨rfl, ?_⟩
  cases p with
  | nil => exact absurd rfl hne
  | cons a p => rfl
 | f :: fs, hf => by
  have hpre := prefix_field (bodyOf fs) p f hp
  by_cases hm : p.isPrefixOf f = true
  ·refine .inr ⟨f.drop p.length, bodyOf fs, 0, by rw [findF, if_pos hm], ?_, ?_, f, List.mem_cons_self, f.take p.length, (List.take_append_drop _ _).symm⟩
   ·rw [bodyOf, Lib.index]
    have : (32 :: p).isPrefixOf (32 :: (f ++ 32 :: bodyOf fs)) = true := by rw [List.isPrefixOf, hpre, hm]; rfl
    rw [if_pos this]
    rfl
   ·have hl : p.length ≤ f.length := (List.isPrefixOf_iff_prefix.1 hm).length_le
    rw [Nat.zero_add, List.drop_succ_cons, bodyOf, List.drop_append_of_le_length hl]
  ·have hm' : p.isPrefixOf f = false := Bool.eq_false_iff.2 hm
   have hn : (32 :: p).isPrefixOf (32 :: (f ++ 32 :: bodyOf fs)) = false := by rw [List.isPrefixOf, hpre, hm']; rfl
   have hsk := index_skip 32 p (32 :: bodyOf fs) f (hf f List.mem_cons_self)
   rcases idx_fields p hp hne fs (fun g hg => hf g (List.mem_cons_of_mem _ hg)) with ⟨h1, h2⟩ | ⟨h, r, i, h1, h2, h3, g, hg, q, hq⟩
   ·refine .inl ⟨by rw [findF, if_neg hm, h1], ?_⟩
    rw [bodyOf, Lib.index, hn, hsk, h2]
    rfl
   ·refine .inr ⟨h, r, i + f.length + 1, by rw [findF, if_neg hm, h1], ?_, ?_, g, List.mem_cons_of_mem _ hg, q, hq⟩
    ·rw [bodyOf, Lib.index, hn, hsk, h2]
     have e1 : ((i : Int) + (f.length : Int) == -1) = false := by rw [beq_eq_false_iff_ne]; omega
     have e2 : ¬ ((i : Int) = -1) := by omega
     simp only [Bool.false_eq_true, if_false, if_neg e2, e1]
     omega
    ·rw [bodyOf, show i + f.length + 1 + (p.length + 1) = (f.length + (i + (p.length + 1))) + 1 by omega, List.drop_succ_cons, ← List.drop_drop]
     rw [List.drop_left]
     exact h3
theorem cut_blank (h r : List UInt8) (hb : ∀ b ∈ h, b ≠ 32) : (Lib.cut (h ++ 32 :: r) [32]).1 = h := by
 have hi := index_skip 32 [] (32 :: r) h hb
 have h0 : Lib.index (32 :: r) [32] = 0 := by rw [Lib.index, if_pos (by simp [List.isPrefixOf])]
 rw [h0, if_neg (by decide)] at hi
 unfold Lib.cut
 rw [hi, if_pos (by omega)]
 show (h ++ 32 :: r).take (0 + (h.length : Int)).toNat = h
 rw [show (0 + (h.length : Int)).toNat = h.length by omega, List.take_left]
theorem contains_no (q : List UInt8) (h : ∀ b ∈ q, b ≠ 32 ∧ b ≠ 61) : Lib.containsAny q [32, 61] = false := by
 have : ∀ l : List UInt8, (∀ b ∈ l, b ≠ 32 ∧ b ≠ 61) → Lib.indexAny l [32, 61] = -1 := by
  intro l
  induction l with
  | nil => intro _; rfl
  | cons b l ih =>
   intro hl
   have hb := hl b List.mem_cons_self
   have hc : ([32, 61] : List UInt8).contains b = false := by simp [hb.1, hb.2]
   rw [Lib.indexAny, hc, ih (fun x hx => hl x (List.mem_cons_of_mem _ hx))]
   rfl
 unfold Lib.containsAny
 rw [this q h]
 rfl
def rawF (F : List ByteArray) : List (List UInt8) := F.map fun f => f.data.toList
def nmF (f : ByteArray) : ByteArray := ⟨(Lib.cut f.data.toList [61]).1.toArray⟩
def hxF (f : ByteArray) : ByteArray := ⟨(Lib.cut f.data.toList [61]).2.1.toArray⟩
def valsF (f : ByteArray) : List Int := (glyph_values.f (hxF f)).getD []
def nameOk (n : ByteArray) : Bool := decide (n.size ≤ 300) && !n.data.toList.isEmpty && n.data.toList.all fun b => decide (b.toNat < 128) && b != 32 && b != 61
def okF (F : List ByteArray) (f : ByteArray) : Bool := decide (f.size < 1000) && (glyph_values.f (hxF f)).isSome && (f.data.toList.all fun b => b != 32) && nameOk (nmF f) && decide (findF ((nmF f).data.toList ++ [61]) (rawF F) = some (hxF f).data.toList)
def goodF (T : ByteArray) (F : List ByteArray) : Bool := decide (T.size < 1000000) && decide (F.length < 1000) && decide (T.data.toList = 32 :: bodyOf (rawF F)) && F.all (okF F)
structure Glyphs (T : ByteArray) (F : List ByteArray) : Prop where
 size : T.size < 1000000
 len : F.length < 1000
 body : T.data.toList = 32 :: bodyOf (rawF F)
 ok : ∀ f ∈ F, okF F f = true
theorem Glyphs.of {T : ByteArray} {F : List ByteArray} (h : goodF T F = true) : Glyphs T F := by
 simp only [goodF, Bool.and_eq_true, decide_eq_true_eq] at h
 exact ⟨h.1.1.1, h.1.1.2, h.1.2, fun f hf => List.all_eq_true.1 h.2 f hf⟩
structure OkF (F : List ByteArray) (f : ByteArray) : Prop where
 size : f.size < 1000
 vals : glyph_values.f (hxF f) = some (valsF f)
 noBlank : ∀ b ∈ f.data.toList, b ≠ 32
 name : nameOk (nmF f) = true
 found : findF ((nmF f).data.toList ++ [61]) (rawF F) = some (hxF f).data.toList
theorem OkF.of {F : List ByteArray} {f : ByteArray} (h : okF F f = true) : OkF F f := by
 simp only [okF, Bool.and_eq_true, decide_eq_true_eq] at h
 obtain ⟨⟨⟨⟨h1, h2⟩, h3⟩, h4⟩, h5⟩ := h
 refine ⟨h1, ?_, ?_, h4, h5⟩
 ·obtain ⟨v, hv⟩ := Option.isSome_iff_exists.1 h2
  unfold valsF
  rw [hv]; rfl
 ·intro b hb
  have := List.all_eq_true.1 h3 b hb
  simpa using this
/-- Of a name that may be one: what the list says of it. -/
theorem uni_eq2 {T : ByteArray} {F : List ByteArray} (hG : Glyphs T F) {k : Nat} (hT : glyph_list.f k = some T) (a : ByteArray) (h1 : a.size ≤ 400) (h2 : a.toList ≠ []) (h4 : ∀ b ∈ a.data.toList, b ≠ 32 ∧ b ≠ 61) :
  glyph_Uni.f (k + 1) a = match findF (a.data.toList ++ [61]) (rawF F) with
   | none => some ([], false)
   | some h => (glyph_values.f ⟨h.toArray⟩).bind fun v => some (v, true) := by
 have hno : ∀ f ∈ rawF F, ∀ b ∈ f, b ≠ 32 := by
  intro f hf b hb
  obtain ⟨g, hg, rfl⟩ := List.mem_map.1 hf
  exact (OkF.of (hG.ok g hg)).noBlank b hb
 have hca : strings_ContainsAny.f a ⟨#[32, 61]⟩ = some false := by
  unfold strings_ContainsAny.f
  rw [if_pos ⟨by omega, by decide, .inr rfl, by decide⟩]
  exact congrArg some (contains_no _ h4)
 unfold glyph_Uni.f
 rw [if_neg h2, hca, Option.bind_some, glyph_Uni.j0, if_neg (by decide), hT, Option.bind_some]
 have hP : ((⟨#[32]⟩ : ByteArray) ++ a ++ ⟨#[61]⟩).data.toList = 32 :: (a.data.toList ++ [61]) := by simp
 have hs1 : ((⟨#[32]⟩ : ByteArray) ++ a).size = 1 + a.size := by rw [ByteArray.size_append]; rfl
 rw [if_pos (by omega), if_pos (by rw [hs1]; omega)]
 have hc : strings_Cut.f T ((⟨#[32]⟩ : ByteArray) ++ a ++ ⟨#[61]⟩) = some (⟨(Lib.cut (32 :: bodyOf (rawF F)) (32 :: (a.data.toList ++ [61]))).1.toArray⟩, ⟨(Lib.cut (32 :: bodyOf (rawF F)) (32 :: (a.data.toList ++ [61]))).2.1.toArray⟩, (Lib.cut (32 :: bodyOf (rawF F)) (32 :: (a.data.toList ++ [61]))).2.2) := by
  unfold strings_Cut.f
  rw [if_pos (by have := hG.size; omega), hP, hG.body]
 rw [hc, Option.bind_some]
 have hp : ∀ b ∈ a.data.toList ++ [61], b ≠ 32 := by
  intro b hb
  rcases List.mem_append.1 hb with hb | hb
  ·exact (h4 b hb).1
  ·rw [List.mem_singleton.1 hb]; decide
 rcases idx_fields (a.data.toList ++ [61]) hp (by simp) (rawF F) hno with ⟨f1, f2⟩ | ⟨h, r, i, f1, f2, f3, g, hg, q, hq⟩
 ·rw [f1]
  have : Lib.cut (32 :: bodyOf (rawF F)) (32 :: (a.data.toList ++ [61])) = (32 :: bodyOf (rawF F), [], false) := by
   unfold Lib.cut
   rw [f2, if_neg (by decide)]
  rw [this]
  rfl
 ·rw [f1]
  have : Lib.cut (32 :: bodyOf (rawF F)) (32 :: (a.data.toList ++ [61])) = ((32 :: bodyOf (rawF F)).take i, h ++ 32 :: r, true) := by
   unfold Lib.cut
   rw [f2, if_pos (by omega), Int.toNat_natCast, List.length_cons, f3]
  rw [this]
  have hsz : (⟨(h ++ 32 :: r).toArray⟩ : ByteArray).size < 4294967281 := by
   rw [ba_size, ← f3, List.length_drop]
   have h5 := hG.size
   have h6 : T.data.toList.length = T.size := rfl
   rw [hG.body] at h6
   omega
  have hh : ∀ b ∈ h, b ≠ 32 := fun b hb => hno g hg b (by rw [hq]; exact List.mem_append_right _ hb)
  have hc2 : strings_Cut.f ⟨(h ++ 32 :: r).toArray⟩ ⟨#[32]⟩ = some (⟨h.toArray⟩, ⟨(Lib.cut (h ++ 32 :: r) [32]).2.1.toArray⟩, (Lib.cut (h ++ 32 :: r) [32]).2.2) := by
   unfold strings_Cut.f
   rw [if_pos hsz, ba_list, cut_blank h r hh]
  show (if true = true then _ else _) = _
  rw [if_pos rfl, hc2, Option.bind_some]
theorem cut_in {F : List ByteArray} {f : ByteArray} (ho : OkF F f) : strings_Cut.f f ⟨#[61]⟩ = some (nmF f, hxF f, (Lib.cut f.data.toList [61]).2.2) := by
 unfold strings_Cut.f
 rw [if_pos (by have := ho.size; omega)]
 rfl
def backIn (r : Int) : List ByteArray → ByteArray × Bool
 | [] => (⟨#[]⟩, false)
 | f :: fs => if valsF f = [r] then (nmF f, true) else backIn r fs
theorem one_rd {l : List Int} {r : Int} : (l.length : Int) = 1 → (rd l 0 = r ↔ l = [r]) := by
 intro h
 match l, h with
 | [x], _ => simp [rd]
theorem back_loopG {F : List ByteArray} (hF : ∀ f ∈ F, okF F f = true) (hl : F.length < 1000) (r : Int) (d : Nat) : ∀ (i k : Nat), F.length - i = d → i ≤ F.length → d < k →
  glyph_Back.l0 k r F F.length i = some (backIn r (F.drop i)) := by
 induction d with
 | zero =>
  intro i k hd hi hk
  obtain ⟨k, rfl⟩ : ∃ m, k = m + 1 := ⟨k - 1, by omega⟩
  rw [glyph_Back.l0, if_neg (by omega), List.drop_eq_nil_of_le (by omega), backIn]
 | succ d ih =>
  intro i k hd hi hk
  obtain ⟨k, rfl⟩ : ∃ m, k = m + 1 := ⟨k - 1, by omega⟩
  have hlt : i < F.length := by omega
  have hw : wrap64 ((i : Int) + 1) = ((i + 1 : Nat) : Int) := by rw [wrap_small (by omega) (by omega)]; omega
  have hr : rdOf ByteArray.empty F (i : Int) = F[i] := by
   unfold rdOf
   rw [Int.toNat_natCast, List.getD_eq_getElem?_getD, List.getElem?_eq_getElem hlt, Option.getD_some]
  have ho := OkF.of (hF _ (List.getElem_mem hlt))
  rw [glyph_Back.l0, if_pos (by omega), if_pos (by omega), if_pos (by omega), hw, hr, cut_in ho, Option.bind_some, ho.vals, Option.bind_some, List.drop_eq_getElem_cons hlt, backIn, ih (i + 1) k (by omega) (by omega) (by omega)]
  by_cases h1 : ((valsF F[i]).length : Int) = 1
  ·rw [if_pos h1, if_pos (by omega)]
   by_cases h2 : valsF F[i] = [r]
   ·rw [if_pos h2, if_pos ((one_rd h1).2 h2)]
   ·rw [if_neg h2, if_neg (fun e => h2 ((one_rd h1).1 e))]
  ·rw [if_neg h1, if_neg (fun e => h1 (by rw [e]; rfl))]
theorem names_loopG {F : List ByteArray} (hF : ∀ f ∈ F, okF F f = true) (hl : F.length < 1000) (d : Nat) : ∀ (i k : Nat) (acc : List ByteArray), F.length - i = d → i ≤ F.length → d < k → acc.length + d < 8796093022208 →
  glyph_Names.l0 k acc F F.length i = some (acc ++ (F.drop i).map nmF) := by
 induction d with
 | zero =>
  intro i k acc hd hi hk ha
  obtain ⟨k, rfl⟩ : ∃ m, k = m + 1 := ⟨k - 1, by omega⟩
  rw [glyph_Names.l0, if_neg (by omega), List.drop_eq_nil_of_le (by omega), List.map_nil, List.append_nil]
 | succ d ih =>
  intro i k acc hd hi hk ha
  obtain ⟨k, rfl⟩ : ∃ m, k = m + 1 := ⟨k - 1, by omega⟩
  have hlt : i < F.length := by omega
  have hw : wrap64 ((i : Int) + 1) = ((i + 1 : Nat) : Int) := by rw [wrap_small (by omega) (by omega)]; omega
  have hr : rdOf ByteArray.empty F (i : Int) = F[i] := by
   unfold rdOf
   rw [Int.toNat_natCast, List.getD_eq_getElem?_getD, List.getElem?_eq_getElem hlt, Option.getD_some]
  have ho := OkF.of (hF _ (List.getElem_mem hlt))
  rw [glyph_Names.l0, if_pos (by omega), if_pos (by omega), if_pos (by omega), hw, hr, cut_in ho, Option.bind_some, if_pos (by omega), ih (i + 1) k _ (by omega) (by omega) (by omega) (by rw [List.length_append, List.length_singleton]; omega), List.drop_eq_getElem_cons hlt, List.map_cons, List.append_assoc]
  rfl
theorem back_eq {T : ByteArray} {F : List ByteArray} (hG : Glyphs T F) {k : Nat} (hk : 1000 ≤ k) (hT : glyph_list.f k = some T) (hF : strings_Fields.f T = some F) (r : Int) : glyph_Back.f k r = some (backIn r F) := by
 unfold glyph_Back.f
 rw [hT, Option.bind_some, hF, Option.bind_some]
 have := back_loopG hG.ok hG.len r F.length 0 k (by omega) (by omega) (by have := hG.len; omega)
 exact this
theorem names_eq {T : ByteArray} {F : List ByteArray} (hG : Glyphs T F) {k : Nat} (hk : 1000 ≤ k) (hT : glyph_list.f k = some T) (hF : strings_Fields.f T = some F) : glyph_Names.f k = some (F.map nmF) := by
 unfold glyph_Names.f
 rw [hT, Option.bind_some, hF, Option.bind_some]
 have := names_loopG hG.ok hG.len F.length 0 k [] (by omega) (by omega) (by have := hG.len; omega) (by have := hG.len; simp; omega)
 exact this
end Go.Proofs.YtdbadfcekomomaaDoor.M
end
