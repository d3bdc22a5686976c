/- Packed by this session's program hbpack.py out of this claim's own texts (QK, G, Rf, EncD, Sh, Q37, Q56, Q79, Q57, Q58, Q59, Q38, Q42, Q27, EncA, Q67, EncW): the same declarations, without those that the claim does not use. -/
import Derived.Test.YtniehnkiicliaaaDoorPkEncAscii1
import Derived.Below
import Derived.Deep.Draws
import Derived.Deep.AppendLies
import Derived.Maps.AppendAt
import Derived.OwnWalk
import Derived.Laws.BytesArg
import Derived.Laws.MakeOwn
import Derived.Laws.OwnMore
import Derived.Deep.OwnRows
import Derived.Tactics
import Derived.Lib.ConvBytes
import Derived.Laws.Slices
import Derived.WalkKit
import Derived.KernelRfl
import Derived.RowKit3
import Derived.Deep.LoopGhost
import Derived.Deep.QuietTactic
import Derived.BigQuiet
import Derived.WideLaws
import Derived.Deep.DeepCutAuto
import Derived.Deep.CutBlock
import Derived.Deep.RegionHeld3
import Derived.Laws.Rows
import Derived.Lib.AppendStr
import Derived.ArgAppend
import Derived.Laws.IdiomCopy
import Derived.OrdersHeld
import Derived.Laws.BitsLemmas
import Derived.RowKit
import Derived.Test.YtniehnkiicliaaaDoorProg
import Derived.Lib.LaidTab
import Derived.Lib.Space
import Derived.Laws.Tables
import Derived.Shelf.Strings.Builder1
import Derived.Shelf.Strings.Builder2
import Derived.Shelf.Strings.OnBuilder
import Derived.Shelf.Small.Utf8
import Derived.Shelf.Small.Strs
import Derived.Shelf.Strconv.Atoi
import Derived.Shelf.Strings.Search1
import Derived.Shelf.Strings.Search2
import Derived.Shelf.Strings.Search3
import Derived.Shelf.Strings.Cut
import Derived.Shelf.LaysM
import Derived.Shelf.Strings.Shaped
import Derived.Shelf.Strings.Fields
import Derived.Shelf.Strings.SplitShaped
import Derived.Shelf.Unicode.Latin
import Derived.Shelf.Strings.Runes
import Derived.Shelf.Strings.IndexAny
import Derived.Shelf.Strings.AsciiSet
import Derived.Shelf.Strings.IndexAnyAll
import Derived.Shelf.Unicode.DecodeSlow
import Derived.Shelf.Unicode.Is16White
import Derived.Shelf.Unicode.IsSpaceAny
import Derived.Shelf.Unicode.Is16Any
import Derived.Shelf.Unicode.Is32Any
import Derived.Shelf.Unicode.ExclAny
import Derived.Lib.AppendZeros
import Derived.Lib.Walk
import Derived.Lib.SliceRun
import Derived.Lib.SlBuf
import Derived.Laws.CopyRow
import Derived.Laws.CopyOwn
import Derived.Lib.Builder
section
/- Laid by this session's program hbprint.py out of the translation: the values' own kinds. -/
namespace Go.Proofs.YtniehnkiicliaaaDoor.M
open Go.RowKit Go.Proofs.YtniehnkiicliaaaDoorW.PrintWords Go.Proofs.YtniehnkiicliaaaDoorW.PrintLast Go.Proofs.YtniehnkiicliaaaDoorW.PrintMore
attribute [local go_sem] max2_int min2_int max_two min_two max_three min_three max_four min_four
set_option linter.unusedVariables false
set_option linter.unusedSimpArgs false
def errW : Option Int → Value
  | none => .nilIface
  | some c => .iface 0 (.int .i64 c)
theorem errW_none : errW none = .nilIface := rfl
theorem errW_some (c : Int) : errW (some c) = .iface 0 (.int .i64 c) := rfl
theorem info9 : (Tryd.prog.info? 9).map (fun i => (i.zero, i.size, i.bytes)) = some (some (.string ⟨#[]⟩), 1, 16) := by kernel_rfl
def rd_L1 (xs : List (List ByteArray)) (i : Int) : (List ByteArray) := xs.getD i.toNat ([] : List ByteArray)
theorem at_L1 {w : World} {A : Option Addr} {n : Nat} {xs : List (List ByteArray)} (h : Kd.C (Kd.slice 9 Kd.string) w A n xs) (i : Int) (h0 : 0 ≤ i) (h1 : i < n) : ∃ ad A0 c0, A = some ad ∧ w.cell? (ad.add i.toNat) = some (.slice A0 (rd_L1 xs i).length c0) ∧ (rd_L1 xs i).length ≤ c0 ∧ Kd.string.C w A0 (rd_L1 xs i).length (rd_L1 xs i) := by
  obtain ⟨ad, c, e, _, hK, hc0⟩ := Kd.C_get h ([] : List ByteArray) i h0 h1
  have hc : ∀ j u, c[j]? = some u → w.cell? (ad.add (i.toNat * 1 + j)) = some u := hc0
  obtain ⟨A0, c0, rfl, l0, g0⟩ := hK
  exact ⟨ad, A0, c0, e, by have hq := hc 0 _ rfl; rwa [Nat.mul_one, Nat.add_zero] at hq, l0, g0⟩
structure S59 where
  f0 : ByteArray
  f1 : (List Int)
def z59 : S59 := ⟨(⟨#[]⟩ : ByteArray), ([] : List Int)⟩
end Go.Proofs.YtniehnkiicliaaaDoor.M
end
section
namespace Go.Proofs.YtniehnkiicliaaaDoor.M
open Go.RowKit Go.Proofs.YtniehnkiicliaaaDoorW.PrintWords
set_option linter.unusedVariables false
theorem tab_below {P : Program} {n : String} {g : Nat} {k : IntKind} {zs : List Int} {w w' : World} (hg : P.globalNamed n = some g) (h : Lib.TabIs P w n k zs) (hb : Below w.heap.size w w') : Lib.TabIs P w' n k zs := by
  unfold Lib.TabIs World.var? at h ⊢
  rw [hg] at h ⊢
  simp only [Option.bind_some] at h ⊢
  have hlt : g < w.heap.size := by
    rcases Nat.lt_or_ge g w.heap.size with h' | h'
    · exact h'
    · rw [Array.getElem?_eq_none h'] at h; cases h
  rw [hb.block g hlt]
  exact h
/-- strconv.ErrRange holds a pointer to an errors.errorString; internal/bytealg.MaxLen holds some int. -/
structure GW (w : World) : Prop where
  range : ∃ a, w.cell? ⟨4, 0, none⟩ = some (.iface 142 (.pointer (some a)))
  syn : ∃ a, w.cell? ⟨3, 0, none⟩ = some (.iface 142 (.pointer (some a)))
  max : ∃ m : Int, w.cell? ⟨2, 0, none⟩ = some (.int .i64 m)
  space : Lib.TabIs Tryd.prog w "strings.asciiSpace" .u8 Lib.asciiSpaceTab
theorem GW.below {w w1 : World} (hb : Below w.heap.size w w1) (h : GW w) : GW w1 where
  range := h.range.imp fun _ e => pw_cell_below hb e
  syn := h.syn.imp fun _ e => pw_cell_below hb e
  max := h.max.imp fun _ e => pw_cell_below hb e
  space := tab_below (g := 0) (by kernel_rfl) h.space hb
theorem GW.drew {w : World} (h : GW w) : GW w.drew := ⟨h.range, h.syn, h.max, h.space⟩
theorem GW.alloc {w : World} (h : GW w) (o : Obj) : GW (w.alloc o) := h.below (below_alloc (Below.refl _ _) o)
end Go.Proofs.YtniehnkiicliaaaDoor.M
end
section
namespace Go.Proofs.YtniehnkiicliaaaDoor.M
open Go.RowKit Go.Proofs.YtniehnkiicliaaaDoorW.PrintWords
set_option linter.unusedVariables false
theorem strings_fresh (w : World) (xs : List ByteArray) (cells : Array Value) (n cap : Nat) (hn : xs.length = n) (hc : n ≤ cap) (hm : cap ≤ maxLen) (hs : cells.size = cap) (ht : cells.toList.take n = xs.map Value.string) :
    Kd.R Kd.string 9 (w.alloc (.cells cells 9)) w.heap.size (fun _ => True) (.slice (some ⟨w.heap.size, 0, none⟩) n cap) xs := by
  subst hn
  refine Kd.R_of_own ?_ (fun _ _ => trivial)
  refine ⟨by simp [encs], .inr ⟨w.heap.size, cap, cells, rfl, Nat.le_refl _, by show (w.heap.push _)[w.heap.size]? = _; rw [Array.getElem?_push_size], hc, hm, by rw [hs, Nat.mul_one], ?_⟩⟩
  rw [Nat.mul_one, ht]
  rfl
theorem strings_read {w : World} {A : Option Addr} {n : Nat} {xs : List ByteArray} (h : Kd.C Kd.string w A n xs) (h0 : 0 < n) :
    ∃ b o, A = some ⟨b, o, none⟩ ∧ b < w.heap.size ∧ ∀ (j : Nat) x, xs[j]? = some x → w.cell? ⟨b, o + j, none⟩ = some (.string x) := by
  obtain ⟨ad, e, hc⟩ := Kd.at_string h 0 (Int.le_refl _) (by omega)
  obtain ⟨b, o, sp⟩ := ad
  have hsp : sp = none := by
    cases sp with
    | none => rfl
    | some s =>
      exfalso
      unfold World.cell? at hc
      simp only [Addr.add] at hc
      split at hc
      · simp at hc
      · cases hc
  subst hsp
  refine ⟨b, o, e, World.block_lt_of_cell? w _ hc, ?_⟩
  intro j x hx
  have hl : xs.length = n := h.1
  have hj : j < xs.length := by
    rcases Nat.lt_or_ge j xs.length with h' | h'
    · exact h'
    · rw [List.getElem?_eq_none h'] at hx; cases hx
  obtain ⟨ad', e', hc'⟩ := Kd.at_string h (j : Int) (by omega) (by omega)
  have ea : ad' = ⟨b, o, none⟩ := Option.some.inj (e'.symm.trans e)
  subst ea
  have ex : rdOf ByteArray.empty xs (j : Int) = x := by
    unfold rdOf
    rw [Int.toNat_natCast, List.getD_eq_getElem?_getD, hx]; rfl
  rw [ex] at hc'
  by_cases e0 : j = 0
  · subst e0; simpa [Addr.add] using hc'
  · simpa [Addr.add, e0] using hc'
theorem strings_readA {w : World} {A : Option Addr} {n : Nat} {xs : List ByteArray} (h : Kd.C Kd.string w A n xs) (h0 : 0 < n) :
    ∃ ad : Addr, A = some ad ∧ ad.block < w.heap.size ∧ ∀ (j : Nat) x, xs[j]? = some x → w.cell? (ad.add j) = some (.string x) := by
  obtain ⟨b, o, e, hb, hc⟩ := strings_read h h0
  refine ⟨⟨b, o, none⟩, e, hb, ?_⟩
  intro j x hx
  have := hc j x hx
  by_cases e0 : j = 0
  · subst e0; simpa [Addr.add] using this
  · simpa [Addr.add, e0] using this
end Go.Proofs.YtniehnkiicliaaaDoor.M
end
section
namespace Go.Proofs.YtniehnkiicliaaaDoor.M
open Go.RowKit Go.Proofs.YtniehnkiicliaaaDoorW.PrintWords Go.Proofs.YtniehnkiicliaaaDoorW.PrintLast Go.Proofs.YtniehnkiicliaaaDoorW.PrintMore
set_option linter.unusedVariables false
set_option linter.unusedSimpArgs false
def noName : ByteArray := ⟨#[]⟩
/-- The names as an array's value. -/
def namesV (l : List ByteArray) : Array Value := (l.map Value.string).toArray
def asciiL (nm : List ByteArray) : List ByteArray := List.replicate 32 noName ++ nm.take 95 ++ List.replicate 129 noName
theorem zero_names : Tryd.zeroCells47 = namesV (List.replicate 256 noName) := by kernel_rfl
theorem namesV_size (l : List ByteArray) : (namesV l).size = l.length := by simp [namesV]
theorem namesV_one (l : List ByteArray) : (namesV l).all (·.oneCell') = true := by
  rw [Array.all_eq_true]
  intro i hi
  simp [namesV, Value.oneCell']
theorem asciiL_length (nm : List ByteArray) (h : 95 ≤ nm.length) : (asciiL nm).length = 256 := by
  simp [asciiL]; omega
theorem ascii_row (nm : List ByteArray) (h : 95 ≤ nm.length) : ((namesV (List.replicate 256 noName)).toList.take 32 ++ (nm.take 95).map Value.string ++ (namesV (List.replicate 256 noName)).toList.drop (32 + 95)).toArray = namesV (asciiL nm) := by
  simp only [namesV, List.toList_toArray, List.map_replicate, List.take_replicate, List.drop_replicate, asciiL, List.map_append]
  rfl
theorem heap_setRow_ne (w : World) (g i : Nat) (cs : Array Value) (h : i ≠ g) : (w.setRow g cs).heap[i]? = w.heap[i]? := by
  unfold World.setRow
  rw [Array.getElem?_modify, if_neg (fun e => h e.symm)]
theorem names_cell {w : World} {b q : Nat} {m : List ByteArray} {t : TypeId} (h : w.heap[b]? = some (.cells (namesV m) t (0, 0))) (hq : q < m.length) :
    w.cell? ⟨b, q, none⟩ = some (.string m[q]) ∧ w.frozen? ⟨b, q, none⟩ = false := by
  constructor
  · simp [World.cell?, h, namesV, hq]
  · simp [World.frozen?, h]
theorem names_set {w : World} {b q : Nat} {m : List ByteArray} {t : TypeId} (x : ByteArray) (h : w.heap[b]? = some (.cells (namesV m) t (0, 0))) :
    (w.setCell ⟨b, q, none⟩ (.string x)).heap[b]? = some (.cells (namesV (m.set q x)) t (0, 0)) := by
  rw [heap_setCell_same w b q _ t _ h]
  simp [namesV, List.map_set]
theorem cell_set_other (w : World) (b q : Nat) (v : Value) (a : Addr) (h : a.block ≠ b) : (w.setCell ⟨b, q, none⟩ v).cell? a = w.cell? a := by
  unfold World.cell?
  rw [heap_setCell_other w ⟨b, q, none⟩ a.block v h]
end Go.Proofs.YtniehnkiicliaaaDoor.M
end
section
namespace Go.Proofs
open Go.Shelf
def Tryd.lays156_ren : Go.Shelf.Ren := ⟨fun | 156 => 56 | 165 => 77 | 166 => 78 | 169 => 46 | 240 => 65 | 241 => 94 | 276 => 85 | 277 => 107 | n => n, fun | 31 => 28 | 9 => 9 | 3 => 3 | 4 => 4 | 0 => 0 | 20 => 20 | 72 => 62 | 76 => 65 | 70 => 60 | 37 => 42 | 75 => 64 | 127 => 83 | 164 => 103 | 5 => 5 | 80 => 53 | n => n, fun | n => n⟩
theorem Tryd.lays156 : Go.Proofs.Lays.n156 Tryd.prog Tryd.lays156_ren := {
  mixed := by kernel_rfl
  f156 := Tryd.func56.trans (congrArg some (by kernel_rfl))
  f165 := Tryd.func77.trans (congrArg some (by kernel_rfl))
  f166 := Tryd.func78.trans (congrArg some (by kernel_rfl))
  f169 := Tryd.func46.trans (congrArg some (by kernel_rfl))
  f240 := Tryd.func65.trans (congrArg some (by kernel_rfl))
  f241 := Tryd.func94.trans (congrArg some (by kernel_rfl))
  f276 := Tryd.func85.trans (congrArg some (by kernel_rfl))
  f277 := Tryd.func107.trans (congrArg some (by kernel_rfl))
  t0 := Tryd.underlying0
  a0 := Tryd.isAgg0
  z0 := Tryd.sizeOf0
  v0 := Tryd.zeroValue0
  t3 := Tryd.underlying3
  a3 := Tryd.isAgg3
  z3 := Tryd.sizeOf3
  v3 := Tryd.zeroValue3
  t4 := Tryd.underlying4
  a4 := Tryd.isAgg4
  z4 := Tryd.sizeOf4
  v4 := Tryd.zeroValue4
  t9 := Tryd.underlying9
  a9 := Tryd.isAgg9
  z9 := Tryd.sizeOf9
  v9 := Tryd.zeroValue9
  t20 := Tryd.underlying20
  a20 := Tryd.isAgg20
  z20 := Tryd.sizeOf20
  v20 := Tryd.zeroValue20
  t31 := Tryd.underlying28
  a31 := Tryd.isAgg28
  z31 := Tryd.sizeOf28
  v31 := Tryd.zeroValue28
  t37 := Tryd.underlying42
  a37 := Tryd.isAgg42
  z37 := Tryd.sizeOf42
  v37 := Tryd.zeroValue42
  t70 := Tryd.underlying60
  a70 := Tryd.isAgg60
  z70 := Tryd.sizeOf60
  v70 := Tryd.zeroValue60
  t72 := Tryd.underlying62
  a72 := Tryd.isAgg62
  z72 := Tryd.sizeOf62
  v72 := Tryd.zeroValue62
  t75 := Tryd.underlying64
  a75 := Tryd.isAgg64
  z75 := Tryd.sizeOf64
  v75 := Tryd.zeroValue64
  t76 := Tryd.underlying65
  a76 := Tryd.isAgg65
  z76 := Tryd.sizeOf65
  v76 := Tryd.zeroValue65
  t127 := Tryd.underlying83
  a127 := Tryd.isAgg83
  z127 := Tryd.sizeOf83
  v127 := Tryd.zeroValue83
  t164 := Tryd.underlying103
  a164 := Tryd.isAgg103
  z164 := Tryd.sizeOf103
  v164 := Tryd.zeroValue103 }
theorem Tryd.Builder_Extra_156 : Builder.Extra Tryd.prog Tryd.lays156_ren := {
  sizeBuilder := by kernel_rfl
  liesBuilder := by kernel_rfl
  t5 := Tryd.underlying5
  a5 := Tryd.isAgg5
  z5 := Tryd.sizeOf5
  v5 := Tryd.zeroValue5
  infoByte := by kernel_rfl
  cellsByte := by kernel_rfl
  sizeByte := by kernel_rfl
  neB5 := by decide }
open Go.RowKit in
/-- No element: the empty string; the world is as it was. (Whatever the slice's address and capacity: a nil slice too.) (LAID: no walk: one application.) -/
theorem Tryd.strings_Join_none (a : Option Addr) (c : Nat) (sep : ByteArray) (w : World) :
    Calls Tryd.prog 56 #[.slice a 0 c, .string sep] w fun e w' => e = .returned (.string ⟨#[]⟩) ∧ w' = w := Any.strings_Join_none Tryd.lays156 Tryd.Builder_Extra_156 a c sep w
open Go.RowKit in
/-- strings.Join: "Join concatenates the elements of its first argument to create a single string. The separator string sep is placed between elements in the resulting string.": HOWEVER MANY ELEMENTS. Below the heap's end the world is as it was. (LAID: no walk: one application.) -/
theorem Tryd.strings_Join (bk o c : Nat) (xs : List ByteArray) (sep : ByteArray) (w : World) (hcells : ∀ (j : Nat) x, xs[j]? = some x → w.cell? ⟨bk, o + j, none⟩ = some (.string x)) (hbk : bk < w.heap.size) (hN : xs.length ≤ 140737488355328) (hcap : xs.length ≤ c) (hlen : (Lib.join (xs.map (·.data.toList)) sep.data.toList).length ≤ 140737488355328) :
    Calls Tryd.prog 56 #[.slice (some ⟨bk, o, none⟩) xs.length c, .string sep] w fun e w' => e = .returned (.string ⟨(Lib.join (xs.map (·.data.toList)) sep.data.toList).toArray⟩) ∧ Below w.heap.size w w' := Any.strings_Join Tryd.lays156 Tryd.Builder_Extra_156 bk o c xs sep w hcells hbk hN hcap hlen
def Tryd.lays172_ren : Go.Shelf.Ren := ⟨fun | 172 => 67 | 244 => 87 | 245 => 82 | 247 => 81 | 279 => 99 | 280 => 100 | 281 => 101 | 282 => 102 | 287 => 98 | 316 => 111 | 171 => 113 | 205 => 112 | 321 => 109 | 322 => 110 | 243 => 114 | 246 => 115 | 283 => 116 | 284 => 117 | 285 => 118 | 286 => 119 | 129 => 121 | 317 => 120 | 318 => 122 | 319 => 123 | 320 => 124 | 337 => 125 | 338 => 126 | n => n, fun | 9 => 9 | 3 => 3 | 75 => 64 | 76 => 65 | 4 => 4 | 5 => 5 | 167 => 111 | 37 => 42 | 0 => 0 | 85 => 76 | 2 => 2 | 168 => 115 | 53 => 112 | 175 => 113 | 46 => 106 | 210 => 135 | 127 => 83 | 145 => 144 | 143 => 142 | 21 => 21 | 171 => 146 | 173 => 149 | 212 => 152 | 51 => 100 | 20 => 20 | 213 => 153 | 232 => 156 | 233 => 157 | 80 => 53 | n => n, fun | 15 => 3 | 16 => 4 | 17 => 7 | 18 => 8 | 19 => 9 | n => n⟩
theorem Tryd.lays172 : Go.Proofs.Lays.n172 Tryd.prog Tryd.lays172_ren := {
  mixed := by kernel_rfl
  f129 := Tryd.func121.trans (congrArg some (by kernel_rfl))
  f171 := Tryd.func113.trans (congrArg some (by kernel_rfl))
  f172 := Tryd.func67.trans (congrArg some (by kernel_rfl))
  f205 := Tryd.func112.trans (congrArg some (by kernel_rfl))
  f243 := Tryd.func114.trans (congrArg some (by kernel_rfl))
  f244 := Tryd.func87.trans (congrArg some (by kernel_rfl))
  f245 := Tryd.func82.trans (congrArg some (by kernel_rfl))
  f246 := Tryd.func115.trans (congrArg some (by kernel_rfl))
  f247 := Tryd.func81.trans (congrArg some (by kernel_rfl))
  f279 := Tryd.func99.trans (congrArg some (by kernel_rfl))
  f280 := Tryd.func100.trans (congrArg some (by kernel_rfl))
  f281 := Tryd.func101.trans (congrArg some (by kernel_rfl))
  f282 := Tryd.func102.trans (congrArg some (by kernel_rfl))
  f283 := Tryd.func116.trans (congrArg some (by kernel_rfl))
  f284 := Tryd.func117.trans (congrArg some (by kernel_rfl))
  f285 := Tryd.func118.trans (congrArg some (by kernel_rfl))
  f286 := Tryd.func119.trans (congrArg some (by kernel_rfl))
  f287 := Tryd.func98.trans (congrArg some (by kernel_rfl))
  f316 := Tryd.func111.trans (congrArg some (by kernel_rfl))
  f317 := Tryd.func120.trans (congrArg some (by kernel_rfl))
  f318 := Tryd.func122.trans (congrArg some (by kernel_rfl))
  f319 := Tryd.func123.trans (congrArg some (by kernel_rfl))
  f320 := Tryd.func124.trans (congrArg some (by kernel_rfl))
  f321 := Tryd.func109.trans (congrArg some (by kernel_rfl))
  f322 := Tryd.func110.trans (congrArg some (by kernel_rfl))
  f337 := Tryd.func125.trans (congrArg some (by kernel_rfl))
  f338 := Tryd.func126.trans (congrArg some (by kernel_rfl))
  t0 := Tryd.underlying0
  a0 := Tryd.isAgg0
  z0 := Tryd.sizeOf0
  v0 := Tryd.zeroValue0
  t2 := Tryd.underlying2
  a2 := Tryd.isAgg2
  z2 := Tryd.sizeOf2
  v2 := Tryd.zeroValue2
  t3 := Tryd.underlying3
  a3 := Tryd.isAgg3
  z3 := Tryd.sizeOf3
  v3 := Tryd.zeroValue3
  t4 := Tryd.underlying4
  a4 := Tryd.isAgg4
  z4 := Tryd.sizeOf4
  v4 := Tryd.zeroValue4
  t5 := Tryd.underlying5
  a5 := Tryd.isAgg5
  z5 := Tryd.sizeOf5
  v5 := Tryd.zeroValue5
  t9 := Tryd.underlying9
  a9 := Tryd.isAgg9
  z9 := Tryd.sizeOf9
  v9 := Tryd.zeroValue9
  t20 := Tryd.underlying20
  a20 := Tryd.isAgg20
  z20 := Tryd.sizeOf20
  v20 := Tryd.zeroValue20
  t21 := Tryd.underlying21
  a21 := Tryd.isAgg21
  z21 := Tryd.sizeOf21
  v21 := Tryd.zeroValue21
  t37 := Tryd.underlying42
  a37 := Tryd.isAgg42
  z37 := Tryd.sizeOf42
  v37 := Tryd.zeroValue42
  t46 := Tryd.underlying106
  a46 := Tryd.isAgg106
  z46 := Tryd.sizeOf106
  v46 := Tryd.zeroValue106
  t51 := Tryd.underlying100
  a51 := Tryd.isAgg100
  z51 := Tryd.sizeOf100
  v51 := Tryd.zeroValue100
  t53 := Tryd.underlying112
  a53 := Tryd.isAgg112
  z53 := Tryd.sizeOf112
  v53 := Tryd.zeroValue112
  t75 := Tryd.underlying64
  a75 := Tryd.isAgg64
  z75 := Tryd.sizeOf64
  v75 := Tryd.zeroValue64
  t76 := Tryd.underlying65
  a76 := Tryd.isAgg65
  z76 := Tryd.sizeOf65
  v76 := Tryd.zeroValue65
  t85 := Tryd.underlying76
  a85 := Tryd.isAgg76
  z85 := Tryd.sizeOf76
  v85 := Tryd.zeroValue76
  t127 := Tryd.underlying83
  a127 := Tryd.isAgg83
  z127 := Tryd.sizeOf83
  v127 := Tryd.zeroValue83
  t143 := Tryd.underlying142
  a143 := Tryd.isAgg142
  z143 := Tryd.sizeOf142
  v143 := Tryd.zeroValue142
  t145 := Tryd.underlying144
  a145 := Tryd.isAgg144
  z145 := Tryd.sizeOf144
  v145 := Tryd.zeroValue144
  t167 := Tryd.underlying111
  a167 := Tryd.isAgg111
  z167 := Tryd.sizeOf111
  v167 := Tryd.zeroValue111
  t168 := Tryd.underlying115
  a168 := Tryd.isAgg115
  z168 := Tryd.sizeOf115
  v168 := Tryd.zeroValue115
  t171 := Tryd.underlying146
  a171 := Tryd.isAgg146
  z171 := Tryd.sizeOf146
  v171 := Tryd.zeroValue146
  t173 := Tryd.underlying149
  a173 := Tryd.isAgg149
  z173 := Tryd.sizeOf149
  v173 := Tryd.zeroValue149
  t175 := Tryd.underlying113
  a175 := Tryd.isAgg113
  z175 := Tryd.sizeOf113
  v175 := Tryd.zeroValue113
  t210 := Tryd.underlying135
  a210 := Tryd.isAgg135
  z210 := Tryd.sizeOf135
  v210 := Tryd.zeroValue135
  t212 := Tryd.underlying152
  a212 := Tryd.isAgg152
  z212 := Tryd.sizeOf152
  v212 := Tryd.zeroValue152
  t213 := Tryd.underlying153
  a213 := Tryd.isAgg153
  z213 := Tryd.sizeOf153
  t232 := Tryd.underlying156
  a232 := Tryd.isAgg156
  z232 := Tryd.sizeOf156
  v232 := Tryd.zeroValue156
  t233 := Tryd.underlying157
  a233 := Tryd.isAgg157
  z233 := Tryd.sizeOf157
  v233 := Tryd.zeroValue157
  g15 := by kernel_rfl
  g16 := by kernel_rfl
  g17 := by kernel_rfl
  g18 := by kernel_rfl
  g19 := by kernel_rfl }
open Go.RowKit in
/-- strconv.Atoi: "Atoi is equivalent to ParseInt(s, 10, 0), converted to type int.": AT A DECIMAL NUMERAL OF AT MOST 18 BYTES: its value, and a nil error. The world behind the call: the one new row that the library's '[]byte(s)' lays. (LAID: no walk: one application.) -/
theorem Tryd.strconv_Atoi (s : ByteArray) (n : Int) (hl : s.size ≤ 18) (h : Lib.atoi s.data.toList = some n) (w : World) :
    Calls Tryd.prog 67 #[.string s] w fun e w' => e = .returned (.tuple #[.int .i64 n, .nilIface]) ∧ ∃ t, w' = Lib.bytesWorld w 5 t := Any.strconv_Atoi Tryd.lays172 s n hl h w
def Tryd.lays145_ren : Go.Shelf.Ren := ⟨fun | 145 => 37 | 220 => 55 | 219 => 76 | 217 => 92 | 225 => 91 | 224 => 90 | 267 => 93 | 266 => 105 | 314 => 106 | n => n, fun | 9 => 9 | 4 => 4 | 59 => 51 | 3 => 3 | 5 => 5 | 46 => 106 | 146 => 129 | 51 => 100 | n => n, fun | 1 => 2 | n => n⟩
theorem Tryd.lays145 : Go.Proofs.Lays.n145 Tryd.prog Tryd.lays145_ren := {
  mixed := by kernel_rfl
  f145 := Tryd.func37.trans (congrArg some (by kernel_rfl))
  f217 := Tryd.func92.trans (congrArg some (by kernel_rfl))
  f219 := Tryd.func76.trans (congrArg some (by kernel_rfl))
  f220 := Tryd.func55.trans (congrArg some (by kernel_rfl))
  f224 := Tryd.func90.trans (congrArg some (by kernel_rfl))
  f225 := Tryd.func91.trans (congrArg some (by kernel_rfl))
  f266 := Tryd.func105.trans (congrArg some (by kernel_rfl))
  f267 := Tryd.func93.trans (congrArg some (by kernel_rfl))
  f314 := Tryd.func106.trans (congrArg some (by kernel_rfl))
  t3 := Tryd.underlying3
  a3 := Tryd.isAgg3
  z3 := Tryd.sizeOf3
  v3 := Tryd.zeroValue3
  t4 := Tryd.underlying4
  a4 := Tryd.isAgg4
  z4 := Tryd.sizeOf4
  v4 := Tryd.zeroValue4
  t5 := Tryd.underlying5
  a5 := Tryd.isAgg5
  z5 := Tryd.sizeOf5
  v5 := Tryd.zeroValue5
  t9 := Tryd.underlying9
  a9 := Tryd.isAgg9
  z9 := Tryd.sizeOf9
  v9 := Tryd.zeroValue9
  t46 := Tryd.underlying106
  a46 := Tryd.isAgg106
  z46 := Tryd.sizeOf106
  v46 := Tryd.zeroValue106
  t51 := Tryd.underlying100
  a51 := Tryd.isAgg100
  z51 := Tryd.sizeOf100
  v51 := Tryd.zeroValue100
  t59 := Tryd.underlying51
  a59 := Tryd.isAgg51
  z59 := Tryd.sizeOf51
  v59 := Tryd.zeroValue51
  t146 := Tryd.underlying129
  a146 := Tryd.isAgg129
  z146 := Tryd.sizeOf129
  v146 := Tryd.zeroValue129
  g1 := by kernel_rfl }
open Go.RowKit Go.Lib in
/-- strings.Cut: "Cut slices s around the first instance of sep, returning the text before and after sep. The found result reports whether sep appears in s. If sep does not appear in s, cut returns s, "", false.": IT RETURNS 'Lib.cut s sep'; the world is as it was but for the count of draws. (LAID: no walk: one application.) -/
theorem Tryd.strings_Cut (s sep : ByteArray) (m : Int) (w : World) (hs : s.size < 4294967281) (hm : w.cell? ⟨2, 0, none⟩ = some (.int .i64 m)) :
    Calls Tryd.prog 37 #[.string s, .string sep] w fun e w' => e = .returned (.tuple #[.string ⟨(Lib.cut s.data.toList sep.data.toList).1.toArray⟩, .string ⟨(Lib.cut s.data.toList sep.data.toList).2.1.toArray⟩, .bool (Lib.cut s.data.toList sep.data.toList).2.2]) ∧ ∃ n, w' = w.drewN n := Any.strings_Cut Tryd.lays145 s sep m w hs hm
def Tryd.lays157_ren : Go.Shelf.Ren := ⟨fun | 157 => 42 | 229 => 63 | 199 => 64 | 261 => 84 | 311 => 103 | 312 => 104 | n => n, fun | 9 => 9 | 31 => 28 | 3 => 3 | 5 => 5 | 4 => 4 | 119 => 79 | 0 => 0 | 40 => 81 | 152 => 97 | 21 => 21 | 154 => 99 | 51 => 100 | 141 => 102 | 196 => 121 | 193 => 118 | 198 => 124 | 49 => 122 | 194 => 119 | 201 => 127 | 226 => 137 | 46 => 106 | 227 => 138 | n => n, fun | 0 => 0 | 6 => 1 | n => n⟩
theorem Tryd.lays157 : Go.Proofs.Lays.n157 Tryd.prog Tryd.lays157_ren := {
  mixed := by kernel_rfl
  f157 := Tryd.func42.trans (congrArg some (by kernel_rfl))
  f199 := Tryd.func64.trans (congrArg some (by kernel_rfl))
  f229 := Tryd.func63.trans (congrArg some (by kernel_rfl))
  f261 := Tryd.func84.trans (congrArg some (by kernel_rfl))
  f311 := Tryd.func103.trans (congrArg some (by kernel_rfl))
  f312 := Tryd.func104.trans (congrArg some (by kernel_rfl))
  t0 := Tryd.underlying0
  a0 := Tryd.isAgg0
  z0 := Tryd.sizeOf0
  v0 := Tryd.zeroValue0
  t3 := Tryd.underlying3
  a3 := Tryd.isAgg3
  z3 := Tryd.sizeOf3
  v3 := Tryd.zeroValue3
  t4 := Tryd.underlying4
  a4 := Tryd.isAgg4
  z4 := Tryd.sizeOf4
  v4 := Tryd.zeroValue4
  t5 := Tryd.underlying5
  a5 := Tryd.isAgg5
  z5 := Tryd.sizeOf5
  v5 := Tryd.zeroValue5
  t9 := Tryd.underlying9
  a9 := Tryd.isAgg9
  z9 := Tryd.sizeOf9
  v9 := Tryd.zeroValue9
  t21 := Tryd.underlying21
  a21 := Tryd.isAgg21
  z21 := Tryd.sizeOf21
  v21 := Tryd.zeroValue21
  t31 := Tryd.underlying28
  a31 := Tryd.isAgg28
  z31 := Tryd.sizeOf28
  v31 := Tryd.zeroValue28
  t40 := Tryd.underlying81
  a40 := Tryd.isAgg81
  z40 := Tryd.sizeOf81
  v40 := Tryd.zeroValue81
  t46 := Tryd.underlying106
  a46 := Tryd.isAgg106
  z46 := Tryd.sizeOf106
  v46 := Tryd.zeroValue106
  t49 := Tryd.underlying122
  a49 := Tryd.isAgg122
  z49 := Tryd.sizeOf122
  v49 := Tryd.zeroValue122
  t51 := Tryd.underlying100
  a51 := Tryd.isAgg100
  z51 := Tryd.sizeOf100
  v51 := Tryd.zeroValue100
  t119 := Tryd.underlying79
  a119 := Tryd.isAgg79
  z119 := Tryd.sizeOf79
  t141 := Tryd.underlying102
  a141 := Tryd.isAgg102
  z141 := Tryd.sizeOf102
  v141 := Tryd.zeroValue102
  t152 := Tryd.underlying97
  a152 := Tryd.isAgg97
  z152 := Tryd.sizeOf97
  v152 := Tryd.zeroValue97
  t154 := Tryd.underlying99
  a154 := Tryd.isAgg99
  z154 := Tryd.sizeOf99
  v154 := Tryd.zeroValue99
  t193 := Tryd.underlying118
  a193 := Tryd.isAgg118
  z193 := Tryd.sizeOf118
  v193 := Tryd.zeroValue118
  t194 := Tryd.underlying119
  a194 := Tryd.isAgg119
  z194 := Tryd.sizeOf119
  v194 := Tryd.zeroValue119
  t196 := Tryd.underlying121
  a196 := Tryd.isAgg121
  z196 := Tryd.sizeOf121
  v196 := Tryd.zeroValue121
  t198 := Tryd.underlying124
  a198 := Tryd.isAgg124
  z198 := Tryd.sizeOf124
  v198 := Tryd.zeroValue124
  t201 := Tryd.underlying127
  a201 := Tryd.isAgg127
  z201 := Tryd.sizeOf127
  v201 := Tryd.zeroValue127
  t226 := Tryd.underlying137
  a226 := Tryd.isAgg137
  z226 := Tryd.sizeOf137
  v226 := Tryd.zeroValue137
  t227 := Tryd.underlying138
  a227 := Tryd.isAgg138
  z227 := Tryd.sizeOf138
  v227 := Tryd.zeroValue138
  g0 := by kernel_rfl
  g6 := by kernel_rfl }
open Go.RowKit Go.Lib in
/-- strings.Fields, the table by 'Lib.TabIs' (as strings.TrimSpace's contract). 'hg': the table's number, by its name: at a dump 'by kernel_rfl'. (LAID: no walk: one application.) -/
theorem Tryd.strings_Fields (s : ByteArray) (w : World) (hs : s.size < 4294967281) (hascii : ∀ (j : Nat) b, s.data.toList[j]? = some b → b.toNat < 128) (htab : Lib.TabIs Tryd.prog w "strings.asciiSpace" .u8 Lib.asciiSpaceTab) :
    Calls Tryd.prog 42 #[.string s] w fun e w' =>
      e = .returned (.slice (some ⟨w.heap.size, 0, none⟩) (Lib.fields s.data.toList).length (Lib.fields s.data.toList).length) ∧ w' = w.alloc (.cells ((Lib.fields s.data.toList).map fun l => Value.string ⟨l.toArray⟩).toArray 9) := Any.strings_Fields Tryd.lays157 (by kernel_rfl) (by kernel_rfl) s w hs hascii htab
end Go.Proofs
end
section
namespace Go.Proofs.YtniehnkiicliaaaDoor.M
open Go.RowKit Go.Proofs.YtniehnkiicliaaaDoorW.PrintWords
set_option linter.unusedVariables false
def strings_Cut.f (a0 a1 : ByteArray) : Option (ByteArray × ByteArray × Bool) := if a0.size < 4294967281 then some (⟨(Lib.cut a0.data.toList a1.data.toList).1.toArray⟩, ⟨(Lib.cut a0.data.toList a1.data.toList).2.1.toArray⟩, (Lib.cut a0.data.toList a1.data.toList).2.2) else none
theorem strings_Cut.calls (a0 a1 : ByteArray) (r1 r2 : ByteArray) (r3 : Bool) (w : World) (hG : GW w) (h : strings_Cut.f a0 a1 = some (r1, r2, r3)) :
    Calls Tryd.prog 37 #[.string a0, .string a1] w fun e w' => e = .returned (.tuple #[.string r1, .string r2, .bool r3]) ∧ Below w.heap.size w w' := by
  unfold strings_Cut.f at h
  split at h
  case isFalse => cases h
  rename_i hb
  have h' := Option.some.inj h
  simp only [Prod.mk.injEq] at h'
  obtain ⟨rfl, rfl, rfl⟩ := h'
  obtain ⟨m, hm⟩ := hG.max
  refine (Tryd.strings_Cut a0 a1 m w hb hm).mono ?_
  rintro e w' ⟨rfl, n, rfl⟩
  exact ⟨rfl, pw_below_drewN (Below.refl _ _) n⟩
end Go.Proofs.YtniehnkiicliaaaDoor.M
end
section
namespace Go.Proofs.YtniehnkiicliaaaDoor.M
open Go.RowKit Go.Proofs.YtniehnkiicliaaaDoorW.PrintWords
set_option linter.unusedVariables false
def joinB (l : List ByteArray) (sep : ByteArray) : List UInt8 := Lib.join (l.map (·.data.toList)) sep.data.toList
def strings_Join.f (l0 : List ByteArray) (a1 : ByteArray) : Option ByteArray := if l0.length ≤ 140737488355328 ∧ (joinB l0 a1).length ≤ 140737488355328 then some ⟨(joinB l0 a1).toArray⟩ else none
theorem strings_Join.calls (A0 : Option Addr) (c0 : Nat) (l0 : List ByteArray) (a1 : ByteArray) (r : ByteArray) (w : World) (hr0 : Kd.C Kd.string w A0 l0.length l0) (hc0 : l0.length ≤ c0) (h : strings_Join.f l0 a1 = some r) :
    Calls Tryd.prog 56 #[.slice A0 l0.length c0, .string a1] w fun e w' => e = .returned (.string r) ∧ Below w.heap.size w w' := by
  unfold strings_Join.f at h
  split at h
  case isFalse => cases h
  rename_i hb
  obtain rfl := Option.some.inj h
  by_cases h0 : l0 = []
  · subst h0
    refine (Tryd.strings_Join_none A0 c0 a1 w).mono ?_
    rintro e w' ⟨rfl, rfl⟩
    exact ⟨rfl, Below.refl _ _⟩
  · obtain ⟨b, o, rfl, hbk, hcell⟩ := strings_read hr0 (List.length_pos_iff.2 h0)
    refine (Tryd.strings_Join b o c0 l0 a1 w hcell hbk hb.1 hc0 hb.2).mono ?_
    rintro e w' ⟨rfl, hbw⟩
    exact ⟨rfl, hbw⟩
end Go.Proofs.YtniehnkiicliaaaDoor.M
end
section
namespace Go.Proofs.YtniehnkiicliaaaDoor.M
open Go.RowKit Go.Proofs.YtniehnkiicliaaaDoorW.PrintWords
set_option linter.unusedVariables false
def slices_Grow_string_string.f (l0 : List ByteArray) (a1 : Int) : Option (List ByteArray) := if l0 = [] ∧ 0 ≤ a1 ∧ a1 ≤ 8796093022208 then some [] else none
set_option maxHeartbeats 4000000 in
set_option maxRecDepth 100000 in
theorem slices_Grow_string_string.calls_nil (a1 : Int) (r : List ByteArray) (w : World) (h : slices_Grow_string_string.f [] a1 = some r) :
    Calls Tryd.prog 79 #[.slice none 0 0, .int .i64 a1] w fun e w' => ∃ v0_ : Value, e = .returned (v0_) ∧ Kd.R Kd.string 9 w' w.heap.size (fun _ => True) v0_ r ∧ Below w.heap.size w w' := by
  unfold slices_Grow_string_string.f at h
  split at h
  case isFalse => cases h
  rename_i hb
  obtain rfl := Option.some.inj h
  clear h
  obtain ⟨-, h0, h1⟩ := hb
  obtain ⟨n, rfl⟩ := Int.eq_ofNat_of_zero_le h0
  clear h0
  by_cases hz : n = 0
  · subst hz
    go_enter Tryd.func79, Tryd.ntmps79
    go_wp2
    all_goals (go_ret; exact ⟨_, rfl, Kd.R_nil _ _ _ _ _, Below.refl _ _⟩)
  · have hmap : (Tryd.prog.info? 9).map (fun i => (i.zero, i.size, i.bytes)) = some (some (.string ⟨#[]⟩), 1, 16) := by kernel_rfl
    obtain ⟨i, hi, hi2⟩ := Option.map_eq_some_iff.1 hmap
    simp only [Prod.mk.injEq] at hi2
    obtain ⟨hi0, hi1, hib⟩ := hi2
    have hrz := fun ty => Lib.run_append_nil_zeros (P := Tryd.prog) w 28 3 ty 9 i (.string ⟨#[]⟩) .i64 .i64 Tryd.underlying28 Tryd.underlying3 hi hi0 n (by omega) (by omega) (by omega) (by rw [hib]; omega)
    clear hmap hi hi0 hi1 hib
    have hGn : n ≤ grownCap w n 0 9 := grownCap_ge w _ _ _
    have hG := grownCap_le_maxLen w n 0 9 (by unfold maxLen; omega)
    generalize grownCap w n 0 9 = G at hrz hGn hG
    go_enter Tryd.func79, Tryd.ntmps79
    go_wp2_with (at_builtin; refine Lib.wpList_append_run _ rfl _ _ _ _ rfl _ _ rfl rfl _ _ (hrz _) ?_)
    all_goals (go_ret; refine ⟨_, rfl, ?_, below_alloc (below_drew (Below.refl _ w)) _⟩)
    all_goals exact strings_fresh w.drew [] _ 0 G rfl (Nat.zero_le _) hG (by rw [Array.size_append, size_zeroCells, size_zeroCells]; show n * 1 + (G - n) * 1 = G; omega) (by simp)
end Go.Proofs.YtniehnkiicliaaaDoor.M
end
section
/- Laid by this session's program hbprint.py out of the translation: the function slices.Concat   string string  and its contract. -/
namespace Go.Proofs.YtniehnkiicliaaaDoor.M
open Go.RowKit Go.Proofs.YtniehnkiicliaaaDoorW.PrintWords Go.Proofs.YtniehnkiicliaaaDoorW.PrintLast Go.Proofs.YtniehnkiicliaaaDoorW.PrintMore
attribute [local go_sem] max2_int min2_int max_two min_two max_three min_three max_four min_four
set_option linter.unusedVariables false
set_option linter.unusedSimpArgs false
mutual
def slices_Concat_string_string.l0 : Nat → List (List ByteArray) → Int → List (List ByteArray) → Int → Int → Option (List ByteArray)
  | 0, _, _, _, _, _ => none
  | k + 1, x0, x3, x9, x10, x11 => if x11 < x10 then (if 0 ≤ x11 then (if x11 < (x9.length : Int) then (if (wrap64 (x3 + ((rd_L1 x9 x11).length : Int))) < 0 then (none) else (slices_Concat_string_string.l0 k x0 (wrap64 (x3 + ((rd_L1 x9 x11).length : Int))) x9 x10 (wrap64 (x11 + 1)))) else (none)) else (none)) else ((slices_Grow_string_string.f ([] : List ByteArray) x3).bind fun t102 => (slices_Concat_string_string.l1 k t102 x0 (x0.length : Int) 0))
def slices_Concat_string_string.l1 : Nat → List ByteArray → List (List ByteArray) → Int → Int → Option (List ByteArray)
  | 0, _, _, _, _ => none
  | k + 1, x6, x25, x26, x27 => if x27 < x26 then (if 0 ≤ x27 then (if x27 < (x25.length : Int) then (if x6.length + (rd_L1 x25 x27).length < 8796093022208 then (slices_Concat_string_string.l1 k (x6 ++ (rd_L1 x25 x27)) x25 x26 (wrap64 (x27 + 1))) else (none)) else (none)) else (none)) else (some x6)
end
def slices_Concat_string_string.f (k : Nat) (l0 : List (List ByteArray)) : Option (List ByteArray) := slices_Concat_string_string.l0 k l0 0 l0 (l0.length : Int) 0
theorem slices_Concat_string_string.mono_l : ∀ k, (∀ y0 y1 y2 y3 y4, LeO (slices_Concat_string_string.l0 k y0 y1 y2 y3 y4) (slices_Concat_string_string.l0 (k + 1) y0 y1 y2 y3 y4)) ∧ (∀ y0 y1 y2 y3, LeO (slices_Concat_string_string.l1 k y0 y1 y2 y3) (slices_Concat_string_string.l1 (k + 1) y0 y1 y2 y3))
  | 0 => ⟨fun _ _ _ _ _ r h => by simp [slices_Concat_string_string.l0] at h, fun _ _ _ _ r h => by simp [slices_Concat_string_string.l1] at h⟩
  | k + 1 => by
    obtain ⟨ih0, ih1⟩ := slices_Concat_string_string.mono_l k
    refine ⟨?_, ?_⟩
    · intro y0 y1 y2 y3 y4
      unfold slices_Concat_string_string.l0
      repeat' first
      | (with_reducible exact ih0 _ _ _ _ _)
      | (with_reducible exact ih1 _ _ _ _)
      | (with_reducible exact LeO.refl _)
      | (with_reducible exact LeO.none _)
      | (with_reducible refine LeO.ite ?_ ?_)
      | (with_reducible refine LeO.bind ?_ (fun _ => ?_))
      | exact ih0 _ _ _ _ _
      | exact ih1 _ _ _ _
      | exact LeO.none _
      | refine LeO.ite ?_ ?_
      | refine LeO.bind ?_ (fun _ => ?_)
    · intro y0 y1 y2 y3
      unfold slices_Concat_string_string.l1
      repeat' first
      | (with_reducible exact ih0 _ _ _ _ _)
      | (with_reducible exact ih1 _ _ _ _)
      | (with_reducible exact LeO.refl _)
      | (with_reducible exact LeO.none _)
      | (with_reducible refine LeO.ite ?_ ?_)
      | (with_reducible refine LeO.bind ?_ (fun _ => ?_))
      | exact ih0 _ _ _ _ _
      | exact ih1 _ _ _ _
      | exact LeO.none _
      | refine LeO.ite ?_ ?_
      | refine LeO.bind ?_ (fun _ => ?_)
theorem slices_Concat_string_string.mono : ∀ a0 k, LeO (slices_Concat_string_string.f k a0) (slices_Concat_string_string.f (k + 1) a0) := by
  intro a0 k
  obtain ⟨ih0, ih1⟩ := slices_Concat_string_string.mono_l k
  unfold slices_Concat_string_string.f
  repeat' first
      | (with_reducible exact ih0 _ _ _ _ _)
      | (with_reducible exact ih1 _ _ _ _)
      | (with_reducible exact LeO.refl _)
      | (with_reducible exact LeO.none _)
      | (with_reducible refine LeO.ite ?_ ?_)
      | (with_reducible refine LeO.bind ?_ (fun _ => ?_))
      | exact ih0 _ _ _ _ _
      | exact ih1 _ _ _ _
      | exact LeO.none _
      | refine LeO.ite ?_ ?_
      | refine LeO.bind ?_ (fun _ => ?_)
set_option maxHeartbeats 8000000 in
set_option maxRecDepth 100000 in
theorem slices_Concat_string_string.calls (k : Nat) (A0 : Option Addr) (c0 : Nat) (l0 : List (List ByteArray)) (r : List ByteArray) (w : World) (hr0 : Kd.C (Kd.slice 9 Kd.string) w A0 l0.length l0) (hc0 : l0.length ≤ c0) (h : slices_Concat_string_string.f k l0 = some r) :
    Calls Tryd.prog 57 #[.slice A0 l0.length c0] w fun e w' => ∃ v0_ : Value, e = .returned (v0_) ∧ Kd.R Kd.string 9 w' w.heap.size (fun _ => True) v0_ r ∧ Below w.heap.size w w' := by
  have HR0 := Aside0.mk hr0
  have HC0 := Aside0.mk hc0
  clear hr0 hc0
  have HB := Aside0.mk (Below.refl w.heap.size w)
  have H : (slices_Concat_string_string.l0 k l0 0 l0 (l0.length : Int) 0) = some r := h
  clear h
  have H' := Aside0.mk H
  clear H
  go_enter Tryd.func57, Tryd.ntmps57
  go_wp2
  go_loopg [3, 11] k (fun kq v3 v11 w' => ∃ (x3_1 : Int) (x11_1 : Int), v3 = .int .i64 x3_1 ∧ v11 = .int .i64 x11_1 ∧ Aside0 (slices_Concat_string_string.l0 kq l0 x3_1 l0 (l0.length : Int) x11_1 = some r) ∧ Aside0 (kq ≤ k) ∧ Aside0 (Below w.heap.size w w'))
  case atStart => exact ⟨(0), (0), (by first | rfl | (simp; done) | (simp [*]; done)), (by first | rfl | (simp; done) | (simp [*]; done)), H', ⟨Nat.le_refl _⟩, ⟨by repeat (first | (with_reducible first | exact HB.out | apply below_alloc | apply pw_below_drewN | apply below_drew1) | exact HB.out)⟩⟩
  case round =>
    clear H'
    obtain ⟨x3_1, x11_1, rfl, rfl, HA, HK1, HB⟩ := hrel
    cases gk with
    | zero => exact absurd HA.out (by simp [slices_Concat_string_string.l0])
    | succ k1 =>
      have H := HA.out
      clear HA
      simp only [slices_Concat_string_string.l0] at H
      by_cases c2 : x11_1 < (l0.length : Int)
      · rw [if_pos c2] at H
        have c2b0 : decide (x11_1 < (l0.length : Int)) = true := decide_eq_true c2
        clear c2
        by_cases c3 : 0 ≤ x11_1
        · rw [if_pos c3] at H
          have c3b0 : decide (0 ≤ x11_1) = true := decide_eq_true c3
          clear c3
          by_cases c4 : x11_1 < (l0.length : Int)
          · rw [if_pos c4] at H
            have c4b0 : decide (x11_1 < (l0.length : Int)) = true := decide_eq_true c4
            clear c4
            by_cases c5 : (wrap64 (x3_1 + ((rd_L1 l0 x11_1).length : Int))) < 0
            · rw [if_pos c5] at H
              exact absurd H (by simp)
            · rw [if_neg c5] at H
              have c5b0 : decide ((wrap64 (x3_1 + ((rd_L1 l0 x11_1).length : Int))) < 0) = false := decide_eq_false c5
              clear c5
              have H' := Aside0.mk H
              clear H
              have p101 : 0 ≤ (x11_1 : Int) := of_decide_eq_true (by first | (with_reducible assumption) | assumption)
              have q101 : x11_1 < (l0.length : Int) := of_decide_eq_true (by first | (with_reducible assumption) | assumption)
              obtain ⟨ad101, A101_0, c101_0, e101, hx101_0, hl101_0, hi101_0⟩ := at_L1 HR0.out x11_1 p101 q101
              cases e101
              replace hx101_0 := (HB.out.cell (World.block_lt_of_cell? w _ hx101_0)).trans hx101_0
              have HR101_0 := Aside0.mk hi101_0
              have HC101_0 := Aside0.mk hl101_0
              clear hi101_0 hl101_0
              replace p101 := eq_true p101
              replace q101 := eq_true q101
              go_wp2
              go_roundg k1
              case measure => have := HK1.out; omega
              case rel => exact ⟨(wrap64 (x3_1 + ((rd_L1 l0 x11_1).length : Int))), (wrap64 (x11_1 + 1)), (by first | rfl | (simp; done) | (simp [*]; done)), (by first | rfl | (simp; done) | (simp [*]; done)), H', ⟨by have := HK1.out; omega⟩, ⟨by repeat (first | (with_reducible first | exact HB.out | apply below_alloc | apply pw_below_drewN | apply below_drew1) | exact HB.out)⟩⟩
          · rw [if_neg c4] at H
            exact absurd H (by simp)
        · rw [if_neg c3] at H
          exact absurd H (by simp)
      · rw [if_neg c2] at H
        have c2b0 : decide (x11_1 < (l0.length : Int)) = false := decide_eq_false c2
        clear c2
        replace H := Option.bind_eq_some_iff.mp H
        obtain ⟨t102, A60, H⟩ := H
        replace H : (slices_Concat_string_string.l1 k1 t102 l0 (l0.length : Int) 0) = some r := H
        have A6 := Aside0.mk A60
        clear A60
        have H' := Aside0.mk H
        clear H
        go_wp2_with (first | ((with_reducible refine gate_callee (f := 79) rfl ?_); refine goesL_ (some 24) rfl rfl Tryd.func79 (by kernel_rfl) rfl #[.slice none 0 0, .int .i64 x3_1] rfl (by (try simp only [List.map_toArray, List.map_cons, List.map_nil]); first | done | rfl | (simp only [List.length_drop, List.length_take]; rfl)) ?_; (refine (slices_Grow_string_string.calls_nil x3_1 t102 _ A6.out).mono ?_); rintro e w7 ⟨v103, rfl, ho0, hb⟩; refine ⟨_, rfl, ?_⟩; have n0_ := Aside0.mk (Kd.R_lower ho0 (below_size (by repeat (first | (with_reducible first | exact HB.out | apply below_alloc | apply pw_below_drewN | apply below_drew1) | exact HB.out)))); have n1_ := Aside0.mk (below_step (by repeat (first | (with_reducible first | exact HB.out | apply below_alloc | apply pw_below_drewN | apply below_drew1) | exact HB.out)) hb); clear HB; have HO104 := n0_; have HB := n1_; clear n0_ n1_; (try clear hb); (try clear hb2); (try clear hk); (try clear hi); (try clear ho0)))
        go_loopg [6, 27] k1 (fun kq v6 v27 w' => ∃ (x6_2 : List ByteArray) (x27_2 : Int), v27 = .int .i64 x27_2 ∧ Aside0 (slices_Concat_string_string.l1 kq x6_2 l0 (l0.length : Int) x27_2 = some r) ∧ Aside0 (kq ≤ k1) ∧ Aside0 (Kd.R Kd.string 9 w' w.heap.size (fun _ => True) v6 x6_2) ∧ Aside0 (Below w.heap.size w w'))
        case atStart => exact ⟨(t102), (0), (by first | rfl | (simp; done) | (simp [*]; done)), H', ⟨Nat.le_refl _⟩, ⟨by (with_reducible repeat (first | apply Kd.R_alloc | apply Kd.R_drewN | apply Kd.R_drew)); exact HO104.out⟩, ⟨by repeat (first | (with_reducible first | exact HB.out | apply below_alloc | apply pw_below_drewN | apply below_drew1) | exact HB.out)⟩⟩
        case round =>
          clear H'
          try clear c1
          try clear p1
          try clear q1
          try clear hx1
          try clear c2
          try clear c2b0
          try clear p2
          try clear c3
          try clear c3b0
          try clear c4
          try clear c4b0
          try clear c5
          try clear c5b0
          try clear p6
          try clear c7
          try clear hx101_0
          try clear p101
          try clear q101
          obtain ⟨x6_2, x27_2, rfl, HA, HK2, HO_6, HB⟩ := hrel
          cases gk with
          | zero => exact absurd HA.out (by simp [slices_Concat_string_string.l1])
          | succ k2 =>
            have H := HA.out
            clear HA
            simp only [slices_Concat_string_string.l1] at H
            by_cases c8 : x27_2 < (l0.length : Int)
            · rw [if_pos c8] at H
              have c8b0 : decide (x27_2 < (l0.length : Int)) = true := decide_eq_true c8
              clear c8
              by_cases c9 : 0 ≤ x27_2
              · rw [if_pos c9] at H
                have c9b0 : decide (0 ≤ x27_2) = true := decide_eq_true c9
                clear c9
                by_cases c10 : x27_2 < (l0.length : Int)
                · rw [if_pos c10] at H
                  have c10b0 : decide (x27_2 < (l0.length : Int)) = true := decide_eq_true c10
                  clear c10
                  by_cases c11 : x6_2.length + (rd_L1 l0 x27_2).length < 8796093022208
                  · rw [if_pos c11] at H
                    have LMc11 := Aside0.mk c11
                    clear c11
                    obtain ⟨y106, hy106⟩ : ∃ y_ : List ByteArray, y_ = (x6_2 ++ (rd_L1 l0 x27_2)) := ⟨_, rfl⟩
                    replace H : (slices_Concat_string_string.l1 k2 y106 l0 (l0.length : Int) (wrap64 (x27_2 + 1))) = some r := by first | (rw [hy106]; with_reducible exact H) | (have H2_ := (Option.bind_some _ _).symm.trans H; rw [hy106]; with_reducible exact H2_) | (have H2_ := (Option.bind_some _ _).symm.trans H; with_reducible exact H2_) | with_reducible exact H | (rw [hy106]; exact H) | exact H
                    have Ny106 := Aside0.mk hy106
                    clear hy106
                    have H' := Aside0.mk H
                    clear H
                    have p105 : 0 ≤ (x27_2 : Int) := of_decide_eq_true (by first | (with_reducible assumption) | assumption)
                    have q105 : x27_2 < (l0.length : Int) := of_decide_eq_true (by first | (with_reducible assumption) | assumption)
                    obtain ⟨ad105, A105_0, c105_0, e105, hx105_0, hl105_0, hi105_0⟩ := at_L1 HR0.out x27_2 p105 q105
                    cases e105
                    replace hx105_0 := (HB.out.cell (World.block_lt_of_cell? w _ hx105_0)).trans hx105_0
                    have HR105_0 := Aside0.mk hi105_0
                    have HC105_0 := Aside0.mk hl105_0
                    clear hi105_0 hl105_0
                    replace p105 := eq_true p105
                    replace q105 := eq_true q105
                    go_wp2_with (first | ((with_reducible refine gate_builtin (b := .append) (xs := #[.tmp 31, .tmp 32]) rfl ?_); at_builtin; refine Kd.R_append_rows Kd.string (w0 := w) w.heap.size rfl (.tmp 31) (.tmp 32) 28 9 (.string ⟨#[]⟩) 16 rfl Tryd.underlying28 info9 rfl (by decide) (by omega) u6 x6_2 (rd_L1 l0 x27_2) _ _ _ (fun _ => True) (fun _ => False) rfl rfl ?aO ?aR (fun _ _ h => h) (fun _ h => h.elim) ?aF ?aB ?aS ?aL ?_; (case aR => repeat (first | exact (Kd.C_below HR105_0.out HB.out) | (with_reducible refine Kd.C_alloc ?_ _) | (with_reducible refine Kd.C_drewN ?_ _) | (with_reducible refine Kd.C_drew ?_))); (case aB => exact (by repeat (first | (with_reducible first | exact HB.out | apply below_alloc | apply pw_below_drewN | apply below_drew1) | exact HB.out))); (case aF => exact (fun _ _ => trivial)); (case aO => exact (by (with_reducible repeat (first | apply Kd.R_alloc | apply Kd.R_drewN | apply Kd.R_drew)); exact HO_6.out)); (case aS => exact (below_size (by repeat (first | (with_reducible first | exact HB.out | apply below_alloc | apply pw_below_drewN | apply below_drew1) | exact HB.out)))); (case aL => have := LMc11.out; omega); intro v107 w12 ho hb hg hat; rw [← Ny106.out] at ho; have n0_ := Aside0.mk (hb); have n1_ := Aside0.mk (ho); clear HB; clear HO_6; have HB := n0_; have HO108 := n1_; clear n0_ n1_; clear ho hb hg hat))
                    go_roundg k2
                    case measure => have := HK1.out; have := HK2.out; omega
                    case rel => exact ⟨(y106), (wrap64 (x27_2 + 1)), (by first | rfl | (simp; done) | (simp [*]; done)), H', ⟨by have := HK1.out; have := HK2.out; omega⟩, ⟨by (with_reducible repeat (first | apply Kd.R_alloc | apply Kd.R_drewN | apply Kd.R_drew)); exact HO108.out⟩, ⟨by repeat (first | (with_reducible first | exact HB.out | apply below_alloc | apply pw_below_drewN | apply below_drew1) | exact HB.out)⟩⟩
                  · rw [if_neg c11] at H
                    exact absurd H (by simp)
                · rw [if_neg c10] at H
                  exact absurd H (by simp)
              · rw [if_neg c9] at H
                exact absurd H (by simp)
            · rw [if_neg c8] at H
              have c8b0 : decide (x27_2 < (l0.length : Int)) = false := decide_eq_false c8
              clear c8
              obtain rfl := Option.some.inj H
              go_wp2
              go_ret
              exact ⟨_, by first | rfl | (simp [errW_none, errW_some] <;> rfl) | (simp [*, errW_none, errW_some] <;> rfl), by (with_reducible repeat (first | apply Kd.R_alloc | apply Kd.R_drewN | apply Kd.R_drew)); exact HO_6.out, by repeat (first | (with_reducible first | exact HB.out | apply below_alloc | apply pw_below_drewN | apply below_drew1) | exact HB.out)⟩
end Go.Proofs.YtniehnkiicliaaaDoor.M
end
section
/- Laid by this session's program hbprint.py out of the translation: the function hornbook/glyph.part1 and its contract. -/
namespace Go.Proofs.YtniehnkiicliaaaDoor.M
open Go.RowKit Go.Proofs.YtniehnkiicliaaaDoorW.PrintWords Go.Proofs.YtniehnkiicliaaaDoorW.PrintLast Go.Proofs.YtniehnkiicliaaaDoorW.PrintMore
attribute [local go_sem] max2_int min2_int max_two min_two max_three min_three max_four min_four
set_option linter.unusedVariables false
set_option linter.unusedSimpArgs false
def glyph_part1.f  : Option (List ByteArray) := some (([(⟨#[115, 112, 97, 99, 101, 61, 48, 48, 50, 48, 32, 101, 120, 99, 108, 97, 109, 61, 48, 48, 50, 49, 32, 113, 117, 111, 116, 101, 100, 98, 108, 61, 48, 48, 50, 50, 32, 110, 117, 109, 98, 101, 114, 115, 105, 103, 110, 61, 48, 48, 50, 51, 32, 100, 111, 108, 108, 97, 114, 61, 48, 48, 50, 52, 32, 112, 101, 114, 99, 101, 110, 116, 61, 48, 48, 50, 53]⟩ : ByteArray), (⟨#[97, 109, 112, 101, 114, 115, 97, 110, 100, 61, 48, 48, 50, 54, 32, 113, 117, 111, 116, 101, 115, 105, 110, 103, 108, 101, 61, 48, 48, 50, 55, 32, 112, 97, 114, 101, 110, 108, 101, 102, 116, 61, 48, 48, 50, 56, 32, 112, 97, 114, 101, 110, 114, 105, 103, 104, 116, 61, 48, 48, 50, 57, 32, 97, 115, 116, 101, 114, 105, 115, 107, 61, 48, 48, 50, 65, 32, 112, 108, 117, 115, 61, 48, 48, 50, 66]⟩ : ByteArray), (⟨#[99, 111, 109, 109, 97, 61, 48, 48, 50, 67, 32, 104, 121, 112, 104, 101, 110, 61, 48, 48, 50, 68, 32, 112, 101, 114, 105, 111, 100, 61, 48, 48, 50, 69, 32, 115, 108, 97, 115, 104, 61, 48, 48, 50, 70, 32, 122, 101, 114, 111, 61, 48, 48, 51, 48, 32, 111, 110, 101, 61, 48, 48, 51, 49]⟩ : ByteArray), (⟨#[116, 119, 111, 61, 48, 48, 51, 50, 32, 116, 104, 114, 101, 101, 61, 48, 48, 51, 51, 32, 102, 111, 117, 114, 61, 48, 48, 51, 52, 32, 102, 105, 118, 101, 61, 48, 48, 51, 53, 32, 115, 105, 120, 61, 48, 48, 51, 54, 32, 115, 101, 118, 101, 110, 61, 48, 48, 51, 55]⟩ : ByteArray), (⟨#[101, 105, 103, 104, 116, 61, 48, 48, 51, 56, 32, 110, 105, 110, 101, 61, 48, 48, 51, 57, 32, 99, 111, 108, 111, 110, 61, 48, 48, 51, 65, 32, 115, 101, 109, 105, 99, 111, 108, 111, 110, 61, 48, 48, 51, 66, 32, 108, 101, 115, 115, 61, 48, 48, 51, 67, 32, 101, 113, 117, 97, 108, 61, 48, 48, 51, 68]⟩ : ByteArray), (⟨#[103, 114, 101, 97, 116, 101, 114, 61, 48, 48, 51, 69, 32, 113, 117, 101, 115, 116, 105, 111, 110, 61, 48, 48, 51, 70, 32, 97, 116, 61, 48, 48, 52, 48, 32, 65, 61, 48, 48, 52, 49, 32, 66, 61, 48, 48, 52, 50, 32, 67, 61, 48, 48, 52, 51]⟩ : ByteArray), (⟨#[68, 61, 48, 48, 52, 52, 32, 69, 61, 48, 48, 52, 53, 32, 70, 61, 48, 48, 52, 54, 32, 71, 61, 48, 48, 52, 55, 32, 72, 61, 48, 48, 52, 56, 32, 73, 61, 48, 48, 52, 57]⟩ : ByteArray), (⟨#[74, 61, 48, 48, 52, 65, 32, 75, 61, 48, 48, 52, 66, 32, 76, 61, 48, 48, 52, 67, 32, 77, 61, 48, 48, 52, 68, 32, 78, 61, 48, 48, 52, 69, 32, 79, 61, 48, 48, 52, 70]⟩ : ByteArray), (⟨#[80, 61, 48, 48, 53, 48, 32, 81, 61, 48, 48, 53, 49, 32, 82, 61, 48, 48, 53, 50, 32, 83, 61, 48, 48, 53, 51, 32, 84, 61, 48, 48, 53, 52, 32, 85, 61, 48, 48, 53, 53]⟩ : ByteArray), (⟨#[86, 61, 48, 48, 53, 54, 32, 87, 61, 48, 48, 53, 55, 32, 88, 61, 48, 48, 53, 56, 32, 89, 61, 48, 48, 53, 57, 32, 90, 61, 48, 48, 53, 65, 32, 98, 114, 97, 99, 107, 101, 116, 108, 101, 102, 116, 61, 48, 48, 53, 66]⟩ : ByteArray), (⟨#[98, 97, 99, 107, 115, 108, 97, 115, 104, 61, 48, 48, 53, 67, 32, 98, 114, 97, 99, 107, 101, 116, 114, 105, 103, 104, 116, 61, 48, 48, 53, 68, 32, 97, 115, 99, 105, 105, 99, 105, 114, 99, 117, 109, 61, 48, 48, 53, 69, 32, 117, 110, 100, 101, 114, 115, 99, 111, 114, 101, 61, 48, 48, 53, 70, 32, 103, 114, 97, 118, 101, 61, 48, 48, 54, 48, 32, 97, 61, 48, 48, 54, 49]⟩ : ByteArray), (⟨#[98, 61, 48, 48, 54, 50, 32, 99, 61, 48, 48, 54, 51, 32, 100, 61, 48, 48, 54, 52, 32, 101, 61, 48, 48, 54, 53, 32, 102, 61, 48, 48, 54, 54, 32, 103, 61, 48, 48, 54, 55]⟩ : ByteArray), (⟨#[104, 61, 48, 48, 54, 56, 32, 105, 61, 48, 48, 54, 57, 32, 106, 61, 48, 48, 54, 65, 32, 107, 61, 48, 48, 54, 66, 32, 108, 61, 48, 48, 54, 67, 32, 109, 61, 48, 48, 54, 68]⟩ : ByteArray), (⟨#[110, 61, 48, 48, 54, 69, 32, 111, 61, 48, 48, 54, 70, 32, 112, 61, 48, 48, 55, 48, 32, 113, 61, 48, 48, 55, 49, 32, 114, 61, 48, 48, 55, 50, 32, 115, 61, 48, 48, 55, 51]⟩ : ByteArray), (⟨#[116, 61, 48, 48, 55, 52, 32, 117, 61, 48, 48, 55, 53, 32, 118, 61, 48, 48, 55, 54, 32, 119, 61, 48, 48, 55, 55, 32, 120, 61, 48, 48, 55, 56, 32, 121, 61, 48, 48, 55, 57]⟩ : ByteArray), (⟨#[122, 61, 48, 48, 55, 65, 32, 98, 114, 97, 99, 101, 108, 101, 102, 116, 61, 48, 48, 55, 66, 32, 98, 97, 114, 61, 48, 48, 55, 67, 32, 98, 114, 97, 99, 101, 114, 105, 103, 104, 116, 61, 48, 48, 55, 68, 32, 97, 115, 99, 105, 105, 116, 105, 108, 100, 101, 61, 48, 48, 55, 69, 32, 101, 120, 99, 108, 97, 109, 100, 111, 119, 110, 61, 48, 48, 65, 49]⟩ : ByteArray), (⟨#[99, 101, 110, 116, 61, 48, 48, 65, 50, 32, 115, 116, 101, 114, 108, 105, 110, 103, 61, 48, 48, 65, 51, 32, 99, 117, 114, 114, 101, 110, 99, 121, 61, 48, 48, 65, 52, 32, 121, 101, 110, 61, 48, 48, 65, 53, 32, 98, 114, 111, 107, 101, 110, 98, 97, 114, 61, 48, 48, 65, 54, 32, 115, 101, 99, 116, 105, 111, 110, 61, 48, 48, 65, 55]⟩ : ByteArray), (⟨#[100, 105, 101, 114, 101, 115, 105, 115, 61, 48, 48, 65, 56, 32, 99, 111, 112, 121, 114, 105, 103, 104, 116, 61, 48, 48, 65, 57, 32, 111, 114, 100, 102, 101, 109, 105, 110, 105, 110, 101, 61, 48, 48, 65, 65, 32, 103, 117, 105, 108, 108, 101, 109, 111, 116, 108, 101, 102, 116, 61, 48, 48, 65, 66, 32, 108, 111, 103, 105, 99, 97, 108, 110, 111, 116, 61, 48, 48, 65, 67, 32, 114, 101, 103, 105, 115, 116, 101, 114, 101, 100, 61, 48, 48, 65, 69]⟩ : ByteArray), (⟨#[109, 97, 99, 114, 111, 110, 61, 48, 48, 65, 70, 32, 100, 101, 103, 114, 101, 101, 61, 48, 48, 66, 48, 32, 112, 108, 117, 115, 109, 105, 110, 117, 115, 61, 48, 48, 66, 49, 32, 116, 119, 111, 115, 117, 112, 101, 114, 105, 111, 114, 61, 48, 48, 66, 50, 32, 116, 104, 114, 101, 101, 115, 117, 112, 101, 114, 105, 111, 114, 61, 48, 48, 66, 51, 32, 97, 99, 117, 116, 101, 61, 48, 48, 66, 52]⟩ : ByteArray), (⟨#[109, 117, 61, 48, 48, 66, 53, 32, 112, 97, 114, 97, 103, 114, 97, 112, 104, 61, 48, 48, 66, 54, 32, 112, 101, 114, 105, 111, 100, 99, 101, 110, 116, 101, 114, 101, 100, 61, 48, 48, 66, 55, 32, 99, 101, 100, 105, 108, 108, 97, 61, 48, 48, 66, 56, 32, 111, 110, 101, 115, 117, 112, 101, 114, 105, 111, 114, 61, 48, 48, 66, 57, 32, 111, 114, 100, 109, 97, 115, 99, 117, 108, 105, 110, 101, 61, 48, 48, 66, 65]⟩ : ByteArray), (⟨#[103, 117, 105, 108, 108, 101, 109, 111, 116, 114, 105, 103, 104, 116, 61, 48, 48, 66, 66, 32, 111, 110, 101, 113, 117, 97, 114, 116, 101, 114, 61, 48, 48, 66, 67, 32, 111, 110, 101, 104, 97, 108, 102, 61, 48, 48, 66, 68, 32, 116, 104, 114, 101, 101, 113, 117, 97, 114, 116, 101, 114, 115, 61, 48, 48, 66, 69, 32, 113, 117, 101, 115, 116, 105, 111, 110, 100, 111, 119, 110, 61, 48, 48, 66, 70, 32, 65, 103, 114, 97, 118, 101, 61, 48, 48, 67, 48]⟩ : ByteArray), (⟨#[65, 97, 99, 117, 116, 101, 61, 48, 48, 67, 49, 32, 65, 99, 105, 114, 99, 117, 109, 102, 108, 101, 120, 61, 48, 48, 67, 50, 32, 65, 116, 105, 108, 100, 101, 61, 48, 48, 67, 51, 32, 65, 100, 105, 101, 114, 101, 115, 105, 115, 61, 48, 48, 67, 52, 32, 65, 114, 105, 110, 103, 61, 48, 48, 67, 53, 32, 65, 69, 61, 48, 48, 67, 54]⟩ : ByteArray), (⟨#[67, 99, 101, 100, 105, 108, 108, 97, 61, 48, 48, 67, 55, 32, 69, 103, 114, 97, 118, 101, 61, 48, 48, 67, 56, 32, 69, 97, 99, 117, 116, 101, 61, 48, 48, 67, 57, 32, 69, 99, 105, 114, 99, 117, 109, 102, 108, 101, 120, 61, 48, 48, 67, 65, 32, 69, 100, 105, 101, 114, 101, 115, 105, 115, 61, 48, 48, 67, 66, 32, 73, 103, 114, 97, 118, 101, 61, 48, 48, 67, 67]⟩ : ByteArray), (⟨#[73, 97, 99, 117, 116, 101, 61, 48, 48, 67, 68, 32, 73, 99, 105, 114, 99, 117, 109, 102, 108, 101, 120, 61, 48, 48, 67, 69, 32, 73, 100, 105, 101, 114, 101, 115, 105, 115, 61, 48, 48, 67, 70, 32, 69, 116, 104, 61, 48, 48, 68, 48, 32, 78, 116, 105, 108, 100, 101, 61, 48, 48, 68, 49, 32, 79, 103, 114, 97, 118, 101, 61, 48, 48, 68, 50]⟩ : ByteArray), (⟨#[79, 97, 99, 117, 116, 101, 61, 48, 48, 68, 51, 32, 79, 99, 105, 114, 99, 117, 109, 102, 108, 101, 120, 61, 48, 48, 68, 52, 32, 79, 116, 105, 108, 100, 101, 61, 48, 48, 68, 53, 32, 79, 100, 105, 101, 114, 101, 115, 105, 115, 61, 48, 48, 68, 54, 32, 109, 117, 108, 116, 105, 112, 108, 121, 61, 48, 48, 68, 55, 32, 79, 115, 108, 97, 115, 104, 61, 48, 48, 68, 56]⟩ : ByteArray), (⟨#[85, 103, 114, 97, 118, 101, 61, 48, 48, 68, 57, 32, 85, 97, 99, 117, 116, 101, 61, 48, 48, 68, 65, 32, 85, 99, 105, 114, 99, 117, 109, 102, 108, 101, 120, 61, 48, 48, 68, 66, 32, 85, 100, 105, 101, 114, 101, 115, 105, 115, 61, 48, 48, 68, 67, 32, 89, 97, 99, 117, 116, 101, 61, 48, 48, 68, 68, 32, 84, 104, 111, 114, 110, 61, 48, 48, 68, 69]⟩ : ByteArray), (⟨#[103, 101, 114, 109, 97, 110, 100, 98, 108, 115, 61, 48, 48, 68, 70, 32, 97, 103, 114, 97, 118, 101, 61, 48, 48, 69, 48, 32, 97, 97, 99, 117, 116, 101, 61, 48, 48, 69, 49, 32, 97, 99, 105, 114, 99, 117, 109, 102, 108, 101, 120, 61, 48, 48, 69, 50, 32, 97, 116, 105, 108, 100, 101, 61, 48, 48, 69, 51, 32, 97, 100, 105, 101, 114, 101, 115, 105, 115, 61, 48, 48, 69, 52]⟩ : ByteArray), (⟨#[97, 114, 105, 110, 103, 61, 48, 48, 69, 53, 32, 97, 101, 61, 48, 48, 69, 54, 32, 99, 99, 101, 100, 105, 108, 108, 97, 61, 48, 48, 69, 55, 32, 101, 103, 114, 97, 118, 101, 61, 48, 48, 69, 56, 32, 101, 97, 99, 117, 116, 101, 61, 48, 48, 69, 57, 32, 101, 99, 105, 114, 99, 117, 109, 102, 108, 101, 120, 61, 48, 48, 69, 65]⟩ : ByteArray), (⟨#[101, 100, 105, 101, 114, 101, 115, 105, 115, 61, 48, 48, 69, 66, 32, 105, 103, 114, 97, 118, 101, 61, 48, 48, 69, 67, 32, 105, 97, 99, 117, 116, 101, 61, 48, 48, 69, 68, 32, 105, 99, 105, 114, 99, 117, 109, 102, 108, 101, 120, 61, 48, 48, 69, 69, 32, 105, 100, 105, 101, 114, 101, 115, 105, 115, 61, 48, 48, 69, 70, 32, 101, 116, 104, 61, 48, 48, 70, 48]⟩ : ByteArray), (⟨#[110, 116, 105, 108, 100, 101, 61, 48, 48, 70, 49, 32, 111, 103, 114, 97, 118, 101, 61, 48, 48, 70, 50, 32, 111, 97, 99, 117, 116, 101, 61, 48, 48, 70, 51, 32, 111, 99, 105, 114, 99, 117, 109, 102, 108, 101, 120, 61, 48, 48, 70, 52, 32, 111, 116, 105, 108, 100, 101, 61, 48, 48, 70, 53, 32, 111, 100, 105, 101, 114, 101, 115, 105, 115, 61, 48, 48, 70, 54]⟩ : ByteArray)] : List ByteArray))
set_option maxHeartbeats 8000000 in
set_option maxRecDepth 100000 in
theorem glyph_part1.calls  (r : List ByteArray) (w : World) (h : glyph_part1.f  = some r) :
    Calls Tryd.prog 58 #[] w fun e w' => ∃ v0_ : Value, e = .returned (v0_) ∧ Kd.R Kd.string 9 w' w.heap.size (fun _ => True) v0_ r ∧ Below w.heap.size w w' := by
  have HB := Aside0.mk (Below.refl w.heap.size w)
  have H : (some (([(⟨#[115, 112, 97, 99, 101, 61, 48, 48, 50, 48, 32, 101, 120, 99, 108, 97, 109, 61, 48, 48, 50, 49, 32, 113, 117, 111, 116, 101, 100, 98, 108, 61, 48, 48, 50, 50, 32, 110, 117, 109, 98, 101, 114, 115, 105, 103, 110, 61, 48, 48, 50, 51, 32, 100, 111, 108, 108, 97, 114, 61, 48, 48, 50, 52, 32, 112, 101, 114, 99, 101, 110, 116, 61, 48, 48, 50, 53]⟩ : ByteArray), (⟨#[97, 109, 112, 101, 114, 115, 97, 110, 100, 61, 48, 48, 50, 54, 32, 113, 117, 111, 116, 101, 115, 105, 110, 103, 108, 101, 61, 48, 48, 50, 55, 32, 112, 97, 114, 101, 110, 108, 101, 102, 116, 61, 48, 48, 50, 56, 32, 112, 97, 114, 101, 110, 114, 105, 103, 104, 116, 61, 48, 48, 50, 57, 32, 97, 115, 116, 101, 114, 105, 115, 107, 61, 48, 48, 50, 65, 32, 112, 108, 117, 115, 61, 48, 48, 50, 66]⟩ : ByteArray), (⟨#[99, 111, 109, 109, 97, 61, 48, 48, 50, 67, 32, 104, 121, 112, 104, 101, 110, 61, 48, 48, 50, 68, 32, 112, 101, 114, 105, 111, 100, 61, 48, 48, 50, 69, 32, 115, 108, 97, 115, 104, 61, 48, 48, 50, 70, 32, 122, 101, 114, 111, 61, 48, 48, 51, 48, 32, 111, 110, 101, 61, 48, 48, 51, 49]⟩ : ByteArray), (⟨#[116, 119, 111, 61, 48, 48, 51, 50, 32, 116, 104, 114, 101, 101, 61, 48, 48, 51, 51, 32, 102, 111, 117, 114, 61, 48, 48, 51, 52, 32, 102, 105, 118, 101, 61, 48, 48, 51, 53, 32, 115, 105, 120, 61, 48, 48, 51, 54, 32, 115, 101, 118, 101, 110, 61, 48, 48, 51, 55]⟩ : ByteArray), (⟨#[101, 105, 103, 104, 116, 61, 48, 48, 51, 56, 32, 110, 105, 110, 101, 61, 48, 48, 51, 57, 32, 99, 111, 108, 111, 110, 61, 48, 48, 51, 65, 32, 115, 101, 109, 105, 99, 111, 108, 111, 110, 61, 48, 48, 51, 66, 32, 108, 101, 115, 115, 61, 48, 48, 51, 67, 32, 101, 113, 117, 97, 108, 61, 48, 48, 51, 68]⟩ : ByteArray), (⟨#[103, 114, 101, 97, 116, 101, 114, 61, 48, 48, 51, 69, 32, 113, 117, 101, 115, 116, 105, 111, 110, 61, 48, 48, 51, 70, 32, 97, 116, 61, 48, 48, 52, 48, 32, 65, 61, 48, 48, 52, 49, 32, 66, 61, 48, 48, 52, 50, 32, 67, 61, 48, 48, 52, 51]⟩ : ByteArray), (⟨#[68, 61, 48, 48, 52, 52, 32, 69, 61, 48, 48, 52, 53, 32, 70, 61, 48, 48, 52, 54, 32, 71, 61, 48, 48, 52, 55, 32, 72, 61, 48, 48, 52, 56, 32, 73, 61, 48, 48, 52, 57]⟩ : ByteArray), (⟨#[74, 61, 48, 48, 52, 65, 32, 75, 61, 48, 48, 52, 66, 32, 76, 61, 48, 48, 52, 67, 32, 77, 61, 48, 48, 52, 68, 32, 78, 61, 48, 48, 52, 69, 32, 79, 61, 48, 48, 52, 70]⟩ : ByteArray), (⟨#[80, 61, 48, 48, 53, 48, 32, 81, 61, 48, 48, 53, 49, 32, 82, 61, 48, 48, 53, 50, 32, 83, 61, 48, 48, 53, 51, 32, 84, 61, 48, 48, 53, 52, 32, 85, 61, 48, 48, 53, 53]⟩ : ByteArray), (⟨#[86, 61, 48, 48, 53, 54, 32, 87, 61, 48, 48, 53, 55, 32, 88, 61, 48, 48, 53, 56, 32, 89, 61, 48, 48, 53, 57, 32, 90, 61, 48, 48, 53, 65, 32, 98, 114, 97, 99, 107, 101, 116, 108, 101, 102, 116, 61, 48, 48, 53, 66]⟩ : ByteArray), (⟨#[98, 97, 99, 107, 115, 108, 97, 115, 104, 61, 48, 48, 53, 67, 32, 98, 114, 97, 99, 107, 101, 116, 114, 105, 103, 104, 116, 61, 48, 48, 53, 68, 32, 97, 115, 99, 105, 105, 99, 105, 114, 99, 117, 109, 61, 48, 48, 53, 69, 32, 117, 110, 100, 101, 114, 115, 99, 111, 114, 101, 61, 48, 48, 53, 70, 32, 103, 114, 97, 118, 101, 61, 48, 48, 54, 48, 32, 97, 61, 48, 48, 54, 49]⟩ : ByteArray), (⟨#[98, 61, 48, 48, 54, 50, 32, 99, 61, 48, 48, 54, 51, 32, 100, 61, 48, 48, 54, 52, 32, 101, 61, 48, 48, 54, 53, 32, 102, 61, 48, 48, 54, 54, 32, 103, 61, 48, 48, 54, 55]⟩ : ByteArray), (⟨#[104, 61, 48, 48, 54, 56, 32, 105, 61, 48, 48, 54, 57, 32, 106, 61, 48, 48, 54, 65, 32, 107, 61, 48, 48, 54, 66, 32, 108, 61, 48, 48, 54, 67, 32, 109, 61, 48, 48, 54, 68]⟩ : ByteArray), (⟨#[110, 61, 48, 48, 54, 69, 32, 111, 61, 48, 48, 54, 70, 32, 112, 61, 48, 48, 55, 48, 32, 113, 61, 48, 48, 55, 49, 32, 114, 61, 48, 48, 55, 50, 32, 115, 61, 48, 48, 55, 51]⟩ : ByteArray), (⟨#[116, 61, 48, 48, 55, 52, 32, 117, 61, 48, 48, 55, 53, 32, 118, 61, 48, 48, 55, 54, 32, 119, 61, 48, 48, 55, 55, 32, 120, 61, 48, 48, 55, 56, 32, 121, 61, 48, 48, 55, 57]⟩ : ByteArray), (⟨#[122, 61, 48, 48, 55, 65, 32, 98, 114, 97, 99, 101, 108, 101, 102, 116, 61, 48, 48, 55, 66, 32, 98, 97, 114, 61, 48, 48, 55, 67, 32, 98, 114, 97, 99, 101, 114, 105, 103, 104, 116, 61, 48, 48, 55, 68, 32, 97, 115, 99, 105, 105, 116, 105, 108, 100, 101, 61, 48, 48, 55, 69, 32, 101, 120, 99, 108, 97, 109, 100, 111, 119, 110, 61, 48, 48, 65, 49]⟩ : ByteArray), (⟨#[99, 101, 110, 116, 61, 48, 48, 65, 50, 32, 115, 116, 101, 114, 108, 105, 110, 103, 61, 48, 48, 65, 51, 32, 99, 117, 114, 114, 101, 110, 99, 121, 61, 48, 48, 65, 52, 32, 121, 101, 110, 61, 48, 48, 65, 53, 32, 98, 114, 111, 107, 101, 110, 98, 97, 114, 61, 48, 48, 65, 54, 32, 115, 101, 99, 116, 105, 111, 110, 61, 48, 48, 65, 55]⟩ : ByteArray), (⟨#[100, 105, 101, 114, 101, 115, 105, 115, 61, 48, 48, 65, 56, 32, 99, 111, 112, 121, 114, 105, 103, 104, 116, 61, 48, 48, 65, 57, 32, 111, 114, 100, 102, 101, 109, 105, 110, 105, 110, 101, 61, 48, 48, 65, 65, 32, 103, 117, 105, 108, 108, 101, 109, 111, 116, 108, 101, 102, 116, 61, 48, 48, 65, 66, 32, 108, 111, 103, 105, 99, 97, 108, 110, 111, 116, 61, 48, 48, 65, 67, 32, 114, 101, 103, 105, 115, 116, 101, 114, 101, 100, 61, 48, 48, 65, 69]⟩ : ByteArray), (⟨#[109, 97, 99, 114, 111, 110, 61, 48, 48, 65, 70, 32, 100, 101, 103, 114, 101, 101, 61, 48, 48, 66, 48, 32, 112, 108, 117, 115, 109, 105, 110, 117, 115, 61, 48, 48, 66, 49, 32, 116, 119, 111, 115, 117, 112, 101, 114, 105, 111, 114, 61, 48, 48, 66, 50, 32, 116, 104, 114, 101, 101, 115, 117, 112, 101, 114, 105, 111, 114, 61, 48, 48, 66, 51, 32, 97, 99, 117, 116, 101, 61, 48, 48, 66, 52]⟩ : ByteArray), (⟨#[109, 117, 61, 48, 48, 66, 53, 32, 112, 97, 114, 97, 103, 114, 97, 112, 104, 61, 48, 48, 66, 54, 32, 112, 101, 114, 105, 111, 100, 99, 101, 110, 116, 101, 114, 101, 100, 61, 48, 48, 66, 55, 32, 99, 101, 100, 105, 108, 108, 97, 61, 48, 48, 66, 56, 32, 111, 110, 101, 115, 117, 112, 101, 114, 105, 111, 114, 61, 48, 48, 66, 57, 32, 111, 114, 100, 109, 97, 115, 99, 117, 108, 105, 110, 101, 61, 48, 48, 66, 65]⟩ : ByteArray), (⟨#[103, 117, 105, 108, 108, 101, 109, 111, 116, 114, 105, 103, 104, 116, 61, 48, 48, 66, 66, 32, 111, 110, 101, 113, 117, 97, 114, 116, 101, 114, 61, 48, 48, 66, 67, 32, 111, 110, 101, 104, 97, 108, 102, 61, 48, 48, 66, 68, 32, 116, 104, 114, 101, 101, 113, 117, 97, 114, 116, 101, 114, 115, 61, 48, 48, 66, 69, 32, 113, 117, 101, 115, 116, 105, 111, 110, 100, 111, 119, 110, 61, 48, 48, 66, 70, 32, 65, 103, 114, 97, 118, 101, 61, 48, 48, 67, 48]⟩ : ByteArray), (⟨#[65, 97, 99, 117, 116, 101, 61, 48, 48, 67, 49, 32, 65, 99, 105, 114, 99, 117, 109, 102, 108, 101, 120, 61, 48, 48, 67, 50, 32, 65, 116, 105, 108, 100, 101, 61, 48, 48, 67, 51, 32, 65, 100, 105, 101, 114, 101, 115, 105, 115, 61, 48, 48, 67, 52, 32, 65, 114, 105, 110, 103, 61, 48, 48, 67, 53, 32, 65, 69, 61, 48, 48, 67, 54]⟩ : ByteArray), (⟨#[67, 99, 101, 100, 105, 108, 108, 97, 61, 48, 48, 67, 55, 32, 69, 103, 114, 97, 118, 101, 61, 48, 48, 67, 56, 32, 69, 97, 99, 117, 116, 101, 61, 48, 48, 67, 57, 32, 69, 99, 105, 114, 99, 117, 109, 102, 108, 101, 120, 61, 48, 48, 67, 65, 32, 69, 100, 105, 101, 114, 101, 115, 105, 115, 61, 48, 48, 67, 66, 32, 73, 103, 114, 97, 118, 101, 61, 48, 48, 67, 67]⟩ : ByteArray), (⟨#[73, 97, 99, 117, 116, 101, 61, 48, 48, 67, 68, 32, 73, 99, 105, 114, 99, 117, 109, 102, 108, 101, 120, 61, 48, 48, 67, 69, 32, 73, 100, 105, 101, 114, 101, 115, 105, 115, 61, 48, 48, 67, 70, 32, 69, 116, 104, 61, 48, 48, 68, 48, 32, 78, 116, 105, 108, 100, 101, 61, 48, 48, 68, 49, 32, 79, 103, 114, 97, 118, 101, 61, 48, 48, 68, 50]⟩ : ByteArray), (⟨#[79, 97, 99, 117, 116, 101, 61, 48, 48, 68, 51, 32, 79, 99, 105, 114, 99, 117, 109, 102, 108, 101, 120, 61, 48, 48, 68, 52, 32, 79, 116, 105, 108, 100, 101, 61, 48, 48, 68, 53, 32, 79, 100, 105, 101, 114, 101, 115, 105, 115, 61, 48, 48, 68, 54, 32, 109, 117, 108, 116, 105, 112, 108, 121, 61, 48, 48, 68, 55, 32, 79, 115, 108, 97, 115, 104, 61, 48, 48, 68, 56]⟩ : ByteArray), (⟨#[85, 103, 114, 97, 118, 101, 61, 48, 48, 68, 57, 32, 85, 97, 99, 117, 116, 101, 61, 48, 48, 68, 65, 32, 85, 99, 105, 114, 99, 117, 109, 102, 108, 101, 120, 61, 48, 48, 68, 66, 32, 85, 100, 105, 101, 114, 101, 115, 105, 115, 61, 48, 48, 68, 67, 32, 89, 97, 99, 117, 116, 101, 61, 48, 48, 68, 68, 32, 84, 104, 111, 114, 110, 61, 48, 48, 68, 69]⟩ : ByteArray), (⟨#[103, 101, 114, 109, 97, 110, 100, 98, 108, 115, 61, 48, 48, 68, 70, 32, 97, 103, 114, 97, 118, 101, 61, 48, 48, 69, 48, 32, 97, 97, 99, 117, 116, 101, 61, 48, 48, 69, 49, 32, 97, 99, 105, 114, 99, 117, 109, 102, 108, 101, 120, 61, 48, 48, 69, 50, 32, 97, 116, 105, 108, 100, 101, 61, 48, 48, 69, 51, 32, 97, 100, 105, 101, 114, 101, 115, 105, 115, 61, 48, 48, 69, 52]⟩ : ByteArray), (⟨#[97, 114, 105, 110, 103, 61, 48, 48, 69, 53, 32, 97, 101, 61, 48, 48, 69, 54, 32, 99, 99, 101, 100, 105, 108, 108, 97, 61, 48, 48, 69, 55, 32, 101, 103, 114, 97, 118, 101, 61, 48, 48, 69, 56, 32, 101, 97, 99, 117, 116, 101, 61, 48, 48, 69, 57, 32, 101, 99, 105, 114, 99, 117, 109, 102, 108, 101, 120, 61, 48, 48, 69, 65]⟩ : ByteArray), (⟨#[101, 100, 105, 101, 114, 101, 115, 105, 115, 61, 48, 48, 69, 66, 32, 105, 103, 114, 97, 118, 101, 61, 48, 48, 69, 67, 32, 105, 97, 99, 117, 116, 101, 61, 48, 48, 69, 68, 32, 105, 99, 105, 114, 99, 117, 109, 102, 108, 101, 120, 61, 48, 48, 69, 69, 32, 105, 100, 105, 101, 114, 101, 115, 105, 115, 61, 48, 48, 69, 70, 32, 101, 116, 104, 61, 48, 48, 70, 48]⟩ : ByteArray), (⟨#[110, 116, 105, 108, 100, 101, 61, 48, 48, 70, 49, 32, 111, 103, 114, 97, 118, 101, 61, 48, 48, 70, 50, 32, 111, 97, 99, 117, 116, 101, 61, 48, 48, 70, 51, 32, 111, 99, 105, 114, 99, 117, 109, 102, 108, 101, 120, 61, 48, 48, 70, 52, 32, 111, 116, 105, 108, 100, 101, 61, 48, 48, 70, 53, 32, 111, 100, 105, 101, 114, 101, 115, 105, 115, 61, 48, 48, 70, 54]⟩ : ByteArray)] : List ByteArray))) = some r := h
  clear h
  obtain ⟨y109, hy109⟩ : ∃ y_ : List ByteArray, y_ = (([(⟨#[115, 112, 97, 99, 101, 61, 48, 48, 50, 48, 32, 101, 120, 99, 108, 97, 109, 61, 48, 48, 50, 49, 32, 113, 117, 111, 116, 101, 100, 98, 108, 61, 48, 48, 50, 50, 32, 110, 117, 109, 98, 101, 114, 115, 105, 103, 110, 61, 48, 48, 50, 51, 32, 100, 111, 108, 108, 97, 114, 61, 48, 48, 50, 52, 32, 112, 101, 114, 99, 101, 110, 116, 61, 48, 48, 50, 53]⟩ : ByteArray), (⟨#[97, 109, 112, 101, 114, 115, 97, 110, 100, 61, 48, 48, 50, 54, 32, 113, 117, 111, 116, 101, 115, 105, 110, 103, 108, 101, 61, 48, 48, 50, 55, 32, 112, 97, 114, 101, 110, 108, 101, 102, 116, 61, 48, 48, 50, 56, 32, 112, 97, 114, 101, 110, 114, 105, 103, 104, 116, 61, 48, 48, 50, 57, 32, 97, 115, 116, 101, 114, 105, 115, 107, 61, 48, 48, 50, 65, 32, 112, 108, 117, 115, 61, 48, 48, 50, 66]⟩ : ByteArray), (⟨#[99, 111, 109, 109, 97, 61, 48, 48, 50, 67, 32, 104, 121, 112, 104, 101, 110, 61, 48, 48, 50, 68, 32, 112, 101, 114, 105, 111, 100, 61, 48, 48, 50, 69, 32, 115, 108, 97, 115, 104, 61, 48, 48, 50, 70, 32, 122, 101, 114, 111, 61, 48, 48, 51, 48, 32, 111, 110, 101, 61, 48, 48, 51, 49]⟩ : ByteArray), (⟨#[116, 119, 111, 61, 48, 48, 51, 50, 32, 116, 104, 114, 101, 101, 61, 48, 48, 51, 51, 32, 102, 111, 117, 114, 61, 48, 48, 51, 52, 32, 102, 105, 118, 101, 61, 48, 48, 51, 53, 32, 115, 105, 120, 61, 48, 48, 51, 54, 32, 115, 101, 118, 101, 110, 61, 48, 48, 51, 55]⟩ : ByteArray), (⟨#[101, 105, 103, 104, 116, 61, 48, 48, 51, 56, 32, 110, 105, 110, 101, 61, 48, 48, 51, 57, 32, 99, 111, 108, 111, 110, 61, 48, 48, 51, 65, 32, 115, 101, 109, 105, 99, 111, 108, 111, 110, 61, 48, 48, 51, 66, 32, 108, 101, 115, 115, 61, 48, 48, 51, 67, 32, 101, 113, 117, 97, 108, 61, 48, 48, 51, 68]⟩ : ByteArray), (⟨#[103, 114, 101, 97, 116, 101, 114, 61, 48, 48, 51, 69, 32, 113, 117, 101, 115, 116, 105, 111, 110, 61, 48, 48, 51, 70, 32, 97, 116, 61, 48, 48, 52, 48, 32, 65, 61, 48, 48, 52, 49, 32, 66, 61, 48, 48, 52, 50, 32, 67, 61, 48, 48, 52, 51]⟩ : ByteArray), (⟨#[68, 61, 48, 48, 52, 52, 32, 69, 61, 48, 48, 52, 53, 32, 70, 61, 48, 48, 52, 54, 32, 71, 61, 48, 48, 52, 55, 32, 72, 61, 48, 48, 52, 56, 32, 73, 61, 48, 48, 52, 57]⟩ : ByteArray), (⟨#[74, 61, 48, 48, 52, 65, 32, 75, 61, 48, 48, 52, 66, 32, 76, 61, 48, 48, 52, 67, 32, 77, 61, 48, 48, 52, 68, 32, 78, 61, 48, 48, 52, 69, 32, 79, 61, 48, 48, 52, 70]⟩ : ByteArray), (⟨#[80, 61, 48, 48, 53, 48, 32, 81, 61, 48, 48, 53, 49, 32, 82, 61, 48, 48, 53, 50, 32, 83, 61, 48, 48, 53, 51, 32, 84, 61, 48, 48, 53, 52, 32, 85, 61, 48, 48, 53, 53]⟩ : ByteArray), (⟨#[86, 61, 48, 48, 53, 54, 32, 87, 61, 48, 48, 53, 55, 32, 88, 61, 48, 48, 53, 56, 32, 89, 61, 48, 48, 53, 57, 32, 90, 61, 48, 48, 53, 65, 32, 98, 114, 97, 99, 107, 101, 116, 108, 101, 102, 116, 61, 48, 48, 53, 66]⟩ : ByteArray), (⟨#[98, 97, 99, 107, 115, 108, 97, 115, 104, 61, 48, 48, 53, 67, 32, 98, 114, 97, 99, 107, 101, 116, 114, 105, 103, 104, 116, 61, 48, 48, 53, 68, 32, 97, 115, 99, 105, 105, 99, 105, 114, 99, 117, 109, 61, 48, 48, 53, 69, 32, 117, 110, 100, 101, 114, 115, 99, 111, 114, 101, 61, 48, 48, 53, 70, 32, 103, 114, 97, 118, 101, 61, 48, 48, 54, 48, 32, 97, 61, 48, 48, 54, 49]⟩ : ByteArray), (⟨#[98, 61, 48, 48, 54, 50, 32, 99, 61, 48, 48, 54, 51, 32, 100, 61, 48, 48, 54, 52, 32, 101, 61, 48, 48, 54, 53, 32, 102, 61, 48, 48, 54, 54, 32, 103, 61, 48, 48, 54, 55]⟩ : ByteArray), (⟨#[104, 61, 48, 48, 54, 56, 32, 105, 61, 48, 48, 54, 57, 32, 106, 61, 48, 48, 54, 65, 32, 107, 61, 48, 48, 54, 66, 32, 108, 61, 48, 48, 54, 67, 32, 109, 61, 48, 48, 54, 68]⟩ : ByteArray), (⟨#[110, 61, 48, 48, 54, 69, 32, 111, 61, 48, 48, 54, 70, 32, 112, 61, 48, 48, 55, 48, 32, 113, 61, 48, 48, 55, 49, 32, 114, 61, 48, 48, 55, 50, 32, 115, 61, 48, 48, 55, 51]⟩ : ByteArray), (⟨#[116, 61, 48, 48, 55, 52, 32, 117, 61, 48, 48, 55, 53, 32, 118, 61, 48, 48, 55, 54, 32, 119, 61, 48, 48, 55, 55, 32, 120, 61, 48, 48, 55, 56, 32, 121, 61, 48, 48, 55, 57]⟩ : ByteArray), (⟨#[122, 61, 48, 48, 55, 65, 32, 98, 114, 97, 99, 101, 108, 101, 102, 116, 61, 48, 48, 55, 66, 32, 98, 97, 114, 61, 48, 48, 55, 67, 32, 98, 114, 97, 99, 101, 114, 105, 103, 104, 116, 61, 48, 48, 55, 68, 32, 97, 115, 99, 105, 105, 116, 105, 108, 100, 101, 61, 48, 48, 55, 69, 32, 101, 120, 99, 108, 97, 109, 100, 111, 119, 110, 61, 48, 48, 65, 49]⟩ : ByteArray), (⟨#[99, 101, 110, 116, 61, 48, 48, 65, 50, 32, 115, 116, 101, 114, 108, 105, 110, 103, 61, 48, 48, 65, 51, 32, 99, 117, 114, 114, 101, 110, 99, 121, 61, 48, 48, 65, 52, 32, 121, 101, 110, 61, 48, 48, 65, 53, 32, 98, 114, 111, 107, 101, 110, 98, 97, 114, 61, 48, 48, 65, 54, 32, 115, 101, 99, 116, 105, 111, 110, 61, 48, 48, 65, 55]⟩ : ByteArray), (⟨#[100, 105, 101, 114, 101, 115, 105, 115, 61, 48, 48, 65, 56, 32, 99, 111, 112, 121, 114, 105, 103, 104, 116, 61, 48, 48, 65, 57, 32, 111, 114, 100, 102, 101, 109, 105, 110, 105, 110, 101, 61, 48, 48, 65, 65, 32, 103, 117, 105, 108, 108, 101, 109, 111, 116, 108, 101, 102, 116, 61, 48, 48, 65, 66, 32, 108, 111, 103, 105, 99, 97, 108, 110, 111, 116, 61, 48, 48, 65, 67, 32, 114, 101, 103, 105, 115, 116, 101, 114, 101, 100, 61, 48, 48, 65, 69]⟩ : ByteArray), (⟨#[109, 97, 99, 114, 111, 110, 61, 48, 48, 65, 70, 32, 100, 101, 103, 114, 101, 101, 61, 48, 48, 66, 48, 32, 112, 108, 117, 115, 109, 105, 110, 117, 115, 61, 48, 48, 66, 49, 32, 116, 119, 111, 115, 117, 112, 101, 114, 105, 111, 114, 61, 48, 48, 66, 50, 32, 116, 104, 114, 101, 101, 115, 117, 112, 101, 114, 105, 111, 114, 61, 48, 48, 66, 51, 32, 97, 99, 117, 116, 101, 61, 48, 48, 66, 52]⟩ : ByteArray), (⟨#[109, 117, 61, 48, 48, 66, 53, 32, 112, 97, 114, 97, 103, 114, 97, 112, 104, 61, 48, 48, 66, 54, 32, 112, 101, 114, 105, 111, 100, 99, 101, 110, 116, 101, 114, 101, 100, 61, 48, 48, 66, 55, 32, 99, 101, 100, 105, 108, 108, 97, 61, 48, 48, 66, 56, 32, 111, 110, 101, 115, 117, 112, 101, 114, 105, 111, 114, 61, 48, 48, 66, 57, 32, 111, 114, 100, 109, 97, 115, 99, 117, 108, 105, 110, 101, 61, 48, 48, 66, 65]⟩ : ByteArray), (⟨#[103, 117, 105, 108, 108, 101, 109, 111, 116, 114, 105, 103, 104, 116, 61, 48, 48, 66, 66, 32, 111, 110, 101, 113, 117, 97, 114, 116, 101, 114, 61, 48, 48, 66, 67, 32, 111, 110, 101, 104, 97, 108, 102, 61, 48, 48, 66, 68, 32, 116, 104, 114, 101, 101, 113, 117, 97, 114, 116, 101, 114, 115, 61, 48, 48, 66, 69, 32, 113, 117, 101, 115, 116, 105, 111, 110, 100, 111, 119, 110, 61, 48, 48, 66, 70, 32, 65, 103, 114, 97, 118, 101, 61, 48, 48, 67, 48]⟩ : ByteArray), (⟨#[65, 97, 99, 117, 116, 101, 61, 48, 48, 67, 49, 32, 65, 99, 105, 114, 99, 117, 109, 102, 108, 101, 120, 61, 48, 48, 67, 50, 32, 65, 116, 105, 108, 100, 101, 61, 48, 48, 67, 51, 32, 65, 100, 105, 101, 114, 101, 115, 105, 115, 61, 48, 48, 67, 52, 32, 65, 114, 105, 110, 103, 61, 48, 48, 67, 53, 32, 65, 69, 61, 48, 48, 67, 54]⟩ : ByteArray), (⟨#[67, 99, 101, 100, 105, 108, 108, 97, 61, 48, 48, 67, 55, 32, 69, 103, 114, 97, 118, 101, 61, 48, 48, 67, 56, 32, 69, 97, 99, 117, 116, 101, 61, 48, 48, 67, 57, 32, 69, 99, 105, 114, 99, 117, 109, 102, 108, 101, 120, 61, 48, 48, 67, 65, 32, 69, 100, 105, 101, 114, 101, 115, 105, 115, 61, 48, 48, 67, 66, 32, 73, 103, 114, 97, 118, 101, 61, 48, 48, 67, 67]⟩ : ByteArray), (⟨#[73, 97, 99, 117, 116, 101, 61, 48, 48, 67, 68, 32, 73, 99, 105, 114, 99, 117, 109, 102, 108, 101, 120, 61, 48, 48, 67, 69, 32, 73, 100, 105, 101, 114, 101, 115, 105, 115, 61, 48, 48, 67, 70, 32, 69, 116, 104, 61, 48, 48, 68, 48, 32, 78, 116, 105, 108, 100, 101, 61, 48, 48, 68, 49, 32, 79, 103, 114, 97, 118, 101, 61, 48, 48, 68, 50]⟩ : ByteArray), (⟨#[79, 97, 99, 117, 116, 101, 61, 48, 48, 68, 51, 32, 79, 99, 105, 114, 99, 117, 109, 102, 108, 101, 120, 61, 48, 48, 68, 52, 32, 79, 116, 105, 108, 100, 101, 61, 48, 48, 68, 53, 32, 79, 100, 105, 101, 114, 101, 115, 105, 115, 61, 48, 48, 68, 54, 32, 109, 117, 108, 116, 105, 112, 108, 121, 61, 48, 48, 68, 55, 32, 79, 115, 108, 97, 115, 104, 61, 48, 48, 68, 56]⟩ : ByteArray), (⟨#[85, 103, 114, 97, 118, 101, 61, 48, 48, 68, 57, 32, 85, 97, 99, 117, 116, 101, 61, 48, 48, 68, 65, 32, 85, 99, 105, 114, 99, 117, 109, 102, 108, 101, 120, 61, 48, 48, 68, 66, 32, 85, 100, 105, 101, 114, 101, 115, 105, 115, 61, 48, 48, 68, 67, 32, 89, 97, 99, 117, 116, 101, 61, 48, 48, 68, 68, 32, 84, 104, 111, 114, 110, 61, 48, 48, 68, 69]⟩ : ByteArray), (⟨#[103, 101, 114, 109, 97, 110, 100, 98, 108, 115, 61, 48, 48, 68, 70, 32, 97, 103, 114, 97, 118, 101, 61, 48, 48, 69, 48, 32, 97, 97, 99, 117, 116, 101, 61, 48, 48, 69, 49, 32, 97, 99, 105, 114, 99, 117, 109, 102, 108, 101, 120, 61, 48, 48, 69, 50, 32, 97, 116, 105, 108, 100, 101, 61, 48, 48, 69, 51, 32, 97, 100, 105, 101, 114, 101, 115, 105, 115, 61, 48, 48, 69, 52]⟩ : ByteArray), (⟨#[97, 114, 105, 110, 103, 61, 48, 48, 69, 53, 32, 97, 101, 61, 48, 48, 69, 54, 32, 99, 99, 101, 100, 105, 108, 108, 97, 61, 48, 48, 69, 55, 32, 101, 103, 114, 97, 118, 101, 61, 48, 48, 69, 56, 32, 101, 97, 99, 117, 116, 101, 61, 48, 48, 69, 57, 32, 101, 99, 105, 114, 99, 117, 109, 102, 108, 101, 120, 61, 48, 48, 69, 65]⟩ : ByteArray), (⟨#[101, 100, 105, 101, 114, 101, 115, 105, 115, 61, 48, 48, 69, 66, 32, 105, 103, 114, 97, 118, 101, 61, 48, 48, 69, 67, 32, 105, 97, 99, 117, 116, 101, 61, 48, 48, 69, 68, 32, 105, 99, 105, 114, 99, 117, 109, 102, 108, 101, 120, 61, 48, 48, 69, 69, 32, 105, 100, 105, 101, 114, 101, 115, 105, 115, 61, 48, 48, 69, 70, 32, 101, 116, 104, 61, 48, 48, 70, 48]⟩ : ByteArray), (⟨#[110, 116, 105, 108, 100, 101, 61, 48, 48, 70, 49, 32, 111, 103, 114, 97, 118, 101, 61, 48, 48, 70, 50, 32, 111, 97, 99, 117, 116, 101, 61, 48, 48, 70, 51, 32, 111, 99, 105, 114, 99, 117, 109, 102, 108, 101, 120, 61, 48, 48, 70, 52, 32, 111, 116, 105, 108, 100, 101, 61, 48, 48, 70, 53, 32, 111, 100, 105, 101, 114, 101, 115, 105, 115, 61, 48, 48, 70, 54]⟩ : ByteArray)] : List ByteArray)) := ⟨_, rfl⟩
  replace H : (some y109) = some r := by first | (rw [hy109]; with_reducible exact H) | (have H2_ := (Option.bind_some _ _).symm.trans H; rw [hy109]; with_reducible exact H2_) | (have H2_ := (Option.bind_some _ _).symm.trans H; with_reducible exact H2_) | with_reducible exact H | (rw [hy109]; exact H) | exact H
  have Ny109 := Aside0.mk hy109
  clear hy109
  obtain rfl := Option.some.inj H
  go_enter Tryd.func58, Tryd.ntmps58
  go_wp2_with (first | ((with_reducible refine gate_dst (N := 1) rfl ?_); refine Kd.R_lit Kd.string _ 9 ?hg (N := 1) ?hd (xs := ([(⟨#[115, 112, 97, 99, 101, 61, 48, 48, 50, 48, 32, 101, 120, 99, 108, 97, 109, 61, 48, 48, 50, 49, 32, 113, 117, 111, 116, 101, 100, 98, 108, 61, 48, 48, 50, 50, 32, 110, 117, 109, 98, 101, 114, 115, 105, 103, 110, 61, 48, 48, 50, 51, 32, 100, 111, 108, 108, 97, 114, 61, 48, 48, 50, 52, 32, 112, 101, 114, 99, 101, 110, 116, 61, 48, 48, 50, 53]⟩ : ByteArray), (⟨#[97, 109, 112, 101, 114, 115, 97, 110, 100, 61, 48, 48, 50, 54, 32, 113, 117, 111, 116, 101, 115, 105, 110, 103, 108, 101, 61, 48, 48, 50, 55, 32, 112, 97, 114, 101, 110, 108, 101, 102, 116, 61, 48, 48, 50, 56, 32, 112, 97, 114, 101, 110, 114, 105, 103, 104, 116, 61, 48, 48, 50, 57, 32, 97, 115, 116, 101, 114, 105, 115, 107, 61, 48, 48, 50, 65, 32, 112, 108, 117, 115, 61, 48, 48, 50, 66]⟩ : ByteArray), (⟨#[99, 111, 109, 109, 97, 61, 48, 48, 50, 67, 32, 104, 121, 112, 104, 101, 110, 61, 48, 48, 50, 68, 32, 112, 101, 114, 105, 111, 100, 61, 48, 48, 50, 69, 32, 115, 108, 97, 115, 104, 61, 48, 48, 50, 70, 32, 122, 101, 114, 111, 61, 48, 48, 51, 48, 32, 111, 110, 101, 61, 48, 48, 51, 49]⟩ : ByteArray), (⟨#[116, 119, 111, 61, 48, 48, 51, 50, 32, 116, 104, 114, 101, 101, 61, 48, 48, 51, 51, 32, 102, 111, 117, 114, 61, 48, 48, 51, 52, 32, 102, 105, 118, 101, 61, 48, 48, 51, 53, 32, 115, 105, 120, 61, 48, 48, 51, 54, 32, 115, 101, 118, 101, 110, 61, 48, 48, 51, 55]⟩ : ByteArray), (⟨#[101, 105, 103, 104, 116, 61, 48, 48, 51, 56, 32, 110, 105, 110, 101, 61, 48, 48, 51, 57, 32, 99, 111, 108, 111, 110, 61, 48, 48, 51, 65, 32, 115, 101, 109, 105, 99, 111, 108, 111, 110, 61, 48, 48, 51, 66, 32, 108, 101, 115, 115, 61, 48, 48, 51, 67, 32, 101, 113, 117, 97, 108, 61, 48, 48, 51, 68]⟩ : ByteArray), (⟨#[103, 114, 101, 97, 116, 101, 114, 61, 48, 48, 51, 69, 32, 113, 117, 101, 115, 116, 105, 111, 110, 61, 48, 48, 51, 70, 32, 97, 116, 61, 48, 48, 52, 48, 32, 65, 61, 48, 48, 52, 49, 32, 66, 61, 48, 48, 52, 50, 32, 67, 61, 48, 48, 52, 51]⟩ : ByteArray), (⟨#[68, 61, 48, 48, 52, 52, 32, 69, 61, 48, 48, 52, 53, 32, 70, 61, 48, 48, 52, 54, 32, 71, 61, 48, 48, 52, 55, 32, 72, 61, 48, 48, 52, 56, 32, 73, 61, 48, 48, 52, 57]⟩ : ByteArray), (⟨#[74, 61, 48, 48, 52, 65, 32, 75, 61, 48, 48, 52, 66, 32, 76, 61, 48, 48, 52, 67, 32, 77, 61, 48, 48, 52, 68, 32, 78, 61, 48, 48, 52, 69, 32, 79, 61, 48, 48, 52, 70]⟩ : ByteArray), (⟨#[80, 61, 48, 48, 53, 48, 32, 81, 61, 48, 48, 53, 49, 32, 82, 61, 48, 48, 53, 50, 32, 83, 61, 48, 48, 53, 51, 32, 84, 61, 48, 48, 53, 52, 32, 85, 61, 48, 48, 53, 53]⟩ : ByteArray), (⟨#[86, 61, 48, 48, 53, 54, 32, 87, 61, 48, 48, 53, 55, 32, 88, 61, 48, 48, 53, 56, 32, 89, 61, 48, 48, 53, 57, 32, 90, 61, 48, 48, 53, 65, 32, 98, 114, 97, 99, 107, 101, 116, 108, 101, 102, 116, 61, 48, 48, 53, 66]⟩ : ByteArray), (⟨#[98, 97, 99, 107, 115, 108, 97, 115, 104, 61, 48, 48, 53, 67, 32, 98, 114, 97, 99, 107, 101, 116, 114, 105, 103, 104, 116, 61, 48, 48, 53, 68, 32, 97, 115, 99, 105, 105, 99, 105, 114, 99, 117, 109, 61, 48, 48, 53, 69, 32, 117, 110, 100, 101, 114, 115, 99, 111, 114, 101, 61, 48, 48, 53, 70, 32, 103, 114, 97, 118, 101, 61, 48, 48, 54, 48, 32, 97, 61, 48, 48, 54, 49]⟩ : ByteArray), (⟨#[98, 61, 48, 48, 54, 50, 32, 99, 61, 48, 48, 54, 51, 32, 100, 61, 48, 48, 54, 52, 32, 101, 61, 48, 48, 54, 53, 32, 102, 61, 48, 48, 54, 54, 32, 103, 61, 48, 48, 54, 55]⟩ : ByteArray), (⟨#[104, 61, 48, 48, 54, 56, 32, 105, 61, 48, 48, 54, 57, 32, 106, 61, 48, 48, 54, 65, 32, 107, 61, 48, 48, 54, 66, 32, 108, 61, 48, 48, 54, 67, 32, 109, 61, 48, 48, 54, 68]⟩ : ByteArray), (⟨#[110, 61, 48, 48, 54, 69, 32, 111, 61, 48, 48, 54, 70, 32, 112, 61, 48, 48, 55, 48, 32, 113, 61, 48, 48, 55, 49, 32, 114, 61, 48, 48, 55, 50, 32, 115, 61, 48, 48, 55, 51]⟩ : ByteArray), (⟨#[116, 61, 48, 48, 55, 52, 32, 117, 61, 48, 48, 55, 53, 32, 118, 61, 48, 48, 55, 54, 32, 119, 61, 48, 48, 55, 55, 32, 120, 61, 48, 48, 55, 56, 32, 121, 61, 48, 48, 55, 57]⟩ : ByteArray), (⟨#[122, 61, 48, 48, 55, 65, 32, 98, 114, 97, 99, 101, 108, 101, 102, 116, 61, 48, 48, 55, 66, 32, 98, 97, 114, 61, 48, 48, 55, 67, 32, 98, 114, 97, 99, 101, 114, 105, 103, 104, 116, 61, 48, 48, 55, 68, 32, 97, 115, 99, 105, 105, 116, 105, 108, 100, 101, 61, 48, 48, 55, 69, 32, 101, 120, 99, 108, 97, 109, 100, 111, 119, 110, 61, 48, 48, 65, 49]⟩ : ByteArray), (⟨#[99, 101, 110, 116, 61, 48, 48, 65, 50, 32, 115, 116, 101, 114, 108, 105, 110, 103, 61, 48, 48, 65, 51, 32, 99, 117, 114, 114, 101, 110, 99, 121, 61, 48, 48, 65, 52, 32, 121, 101, 110, 61, 48, 48, 65, 53, 32, 98, 114, 111, 107, 101, 110, 98, 97, 114, 61, 48, 48, 65, 54, 32, 115, 101, 99, 116, 105, 111, 110, 61, 48, 48, 65, 55]⟩ : ByteArray), (⟨#[100, 105, 101, 114, 101, 115, 105, 115, 61, 48, 48, 65, 56, 32, 99, 111, 112, 121, 114, 105, 103, 104, 116, 61, 48, 48, 65, 57, 32, 111, 114, 100, 102, 101, 109, 105, 110, 105, 110, 101, 61, 48, 48, 65, 65, 32, 103, 117, 105, 108, 108, 101, 109, 111, 116, 108, 101, 102, 116, 61, 48, 48, 65, 66, 32, 108, 111, 103, 105, 99, 97, 108, 110, 111, 116, 61, 48, 48, 65, 67, 32, 114, 101, 103, 105, 115, 116, 101, 114, 101, 100, 61, 48, 48, 65, 69]⟩ : ByteArray), (⟨#[109, 97, 99, 114, 111, 110, 61, 48, 48, 65, 70, 32, 100, 101, 103, 114, 101, 101, 61, 48, 48, 66, 48, 32, 112, 108, 117, 115, 109, 105, 110, 117, 115, 61, 48, 48, 66, 49, 32, 116, 119, 111, 115, 117, 112, 101, 114, 105, 111, 114, 61, 48, 48, 66, 50, 32, 116, 104, 114, 101, 101, 115, 117, 112, 101, 114, 105, 111, 114, 61, 48, 48, 66, 51, 32, 97, 99, 117, 116, 101, 61, 48, 48, 66, 52]⟩ : ByteArray), (⟨#[109, 117, 61, 48, 48, 66, 53, 32, 112, 97, 114, 97, 103, 114, 97, 112, 104, 61, 48, 48, 66, 54, 32, 112, 101, 114, 105, 111, 100, 99, 101, 110, 116, 101, 114, 101, 100, 61, 48, 48, 66, 55, 32, 99, 101, 100, 105, 108, 108, 97, 61, 48, 48, 66, 56, 32, 111, 110, 101, 115, 117, 112, 101, 114, 105, 111, 114, 61, 48, 48, 66, 57, 32, 111, 114, 100, 109, 97, 115, 99, 117, 108, 105, 110, 101, 61, 48, 48, 66, 65]⟩ : ByteArray), (⟨#[103, 117, 105, 108, 108, 101, 109, 111, 116, 114, 105, 103, 104, 116, 61, 48, 48, 66, 66, 32, 111, 110, 101, 113, 117, 97, 114, 116, 101, 114, 61, 48, 48, 66, 67, 32, 111, 110, 101, 104, 97, 108, 102, 61, 48, 48, 66, 68, 32, 116, 104, 114, 101, 101, 113, 117, 97, 114, 116, 101, 114, 115, 61, 48, 48, 66, 69, 32, 113, 117, 101, 115, 116, 105, 111, 110, 100, 111, 119, 110, 61, 48, 48, 66, 70, 32, 65, 103, 114, 97, 118, 101, 61, 48, 48, 67, 48]⟩ : ByteArray), (⟨#[65, 97, 99, 117, 116, 101, 61, 48, 48, 67, 49, 32, 65, 99, 105, 114, 99, 117, 109, 102, 108, 101, 120, 61, 48, 48, 67, 50, 32, 65, 116, 105, 108, 100, 101, 61, 48, 48, 67, 51, 32, 65, 100, 105, 101, 114, 101, 115, 105, 115, 61, 48, 48, 67, 52, 32, 65, 114, 105, 110, 103, 61, 48, 48, 67, 53, 32, 65, 69, 61, 48, 48, 67, 54]⟩ : ByteArray), (⟨#[67, 99, 101, 100, 105, 108, 108, 97, 61, 48, 48, 67, 55, 32, 69, 103, 114, 97, 118, 101, 61, 48, 48, 67, 56, 32, 69, 97, 99, 117, 116, 101, 61, 48, 48, 67, 57, 32, 69, 99, 105, 114, 99, 117, 109, 102, 108, 101, 120, 61, 48, 48, 67, 65, 32, 69, 100, 105, 101, 114, 101, 115, 105, 115, 61, 48, 48, 67, 66, 32, 73, 103, 114, 97, 118, 101, 61, 48, 48, 67, 67]⟩ : ByteArray), (⟨#[73, 97, 99, 117, 116, 101, 61, 48, 48, 67, 68, 32, 73, 99, 105, 114, 99, 117, 109, 102, 108, 101, 120, 61, 48, 48, 67, 69, 32, 73, 100, 105, 101, 114, 101, 115, 105, 115, 61, 48, 48, 67, 70, 32, 69, 116, 104, 61, 48, 48, 68, 48, 32, 78, 116, 105, 108, 100, 101, 61, 48, 48, 68, 49, 32, 79, 103, 114, 97, 118, 101, 61, 48, 48, 68, 50]⟩ : ByteArray), (⟨#[79, 97, 99, 117, 116, 101, 61, 48, 48, 68, 51, 32, 79, 99, 105, 114, 99, 117, 109, 102, 108, 101, 120, 61, 48, 48, 68, 52, 32, 79, 116, 105, 108, 100, 101, 61, 48, 48, 68, 53, 32, 79, 100, 105, 101, 114, 101, 115, 105, 115, 61, 48, 48, 68, 54, 32, 109, 117, 108, 116, 105, 112, 108, 121, 61, 48, 48, 68, 55, 32, 79, 115, 108, 97, 115, 104, 61, 48, 48, 68, 56]⟩ : ByteArray), (⟨#[85, 103, 114, 97, 118, 101, 61, 48, 48, 68, 57, 32, 85, 97, 99, 117, 116, 101, 61, 48, 48, 68, 65, 32, 85, 99, 105, 114, 99, 117, 109, 102, 108, 101, 120, 61, 48, 48, 68, 66, 32, 85, 100, 105, 101, 114, 101, 115, 105, 115, 61, 48, 48, 68, 67, 32, 89, 97, 99, 117, 116, 101, 61, 48, 48, 68, 68, 32, 84, 104, 111, 114, 110, 61, 48, 48, 68, 69]⟩ : ByteArray), (⟨#[103, 101, 114, 109, 97, 110, 100, 98, 108, 115, 61, 48, 48, 68, 70, 32, 97, 103, 114, 97, 118, 101, 61, 48, 48, 69, 48, 32, 97, 97, 99, 117, 116, 101, 61, 48, 48, 69, 49, 32, 97, 99, 105, 114, 99, 117, 109, 102, 108, 101, 120, 61, 48, 48, 69, 50, 32, 97, 116, 105, 108, 100, 101, 61, 48, 48, 69, 51, 32, 97, 100, 105, 101, 114, 101, 115, 105, 115, 61, 48, 48, 69, 52]⟩ : ByteArray), (⟨#[97, 114, 105, 110, 103, 61, 48, 48, 69, 53, 32, 97, 101, 61, 48, 48, 69, 54, 32, 99, 99, 101, 100, 105, 108, 108, 97, 61, 48, 48, 69, 55, 32, 101, 103, 114, 97, 118, 101, 61, 48, 48, 69, 56, 32, 101, 97, 99, 117, 116, 101, 61, 48, 48, 69, 57, 32, 101, 99, 105, 114, 99, 117, 109, 102, 108, 101, 120, 61, 48, 48, 69, 65]⟩ : ByteArray), (⟨#[101, 100, 105, 101, 114, 101, 115, 105, 115, 61, 48, 48, 69, 66, 32, 105, 103, 114, 97, 118, 101, 61, 48, 48, 69, 67, 32, 105, 97, 99, 117, 116, 101, 61, 48, 48, 69, 68, 32, 105, 99, 105, 114, 99, 117, 109, 102, 108, 101, 120, 61, 48, 48, 69, 69, 32, 105, 100, 105, 101, 114, 101, 115, 105, 115, 61, 48, 48, 69, 70, 32, 101, 116, 104, 61, 48, 48, 70, 48]⟩ : ByteArray), (⟨#[110, 116, 105, 108, 100, 101, 61, 48, 48, 70, 49, 32, 111, 103, 114, 97, 118, 101, 61, 48, 48, 70, 50, 32, 111, 97, 99, 117, 116, 101, 61, 48, 48, 70, 51, 32, 111, 99, 105, 114, 99, 117, 109, 102, 108, 101, 120, 61, 48, 48, 70, 52, 32, 111, 116, 105, 108, 100, 101, 61, 48, 48, 70, 53, 32, 111, 100, 105, 101, 114, 101, 115, 105, 115, 61, 48, 48, 70, 54]⟩ : ByteArray)] : List ByteArray)) (inner := [.string (⟨#[115, 112, 97, 99, 101, 61, 48, 48, 50, 48, 32, 101, 120, 99, 108, 97, 109, 61, 48, 48, 50, 49, 32, 113, 117, 111, 116, 101, 100, 98, 108, 61, 48, 48, 50, 50, 32, 110, 117, 109, 98, 101, 114, 115, 105, 103, 110, 61, 48, 48, 50, 51, 32, 100, 111, 108, 108, 97, 114, 61, 48, 48, 50, 52, 32, 112, 101, 114, 99, 101, 110, 116, 61, 48, 48, 50, 53]⟩ : ByteArray), .string (⟨#[97, 109, 112, 101, 114, 115, 97, 110, 100, 61, 48, 48, 50, 54, 32, 113, 117, 111, 116, 101, 115, 105, 110, 103, 108, 101, 61, 48, 48, 50, 55, 32, 112, 97, 114, 101, 110, 108, 101, 102, 116, 61, 48, 48, 50, 56, 32, 112, 97, 114, 101, 110, 114, 105, 103, 104, 116, 61, 48, 48, 50, 57, 32, 97, 115, 116, 101, 114, 105, 115, 107, 61, 48, 48, 50, 65, 32, 112, 108, 117, 115, 61, 48, 48, 50, 66]⟩ : ByteArray), .string (⟨#[99, 111, 109, 109, 97, 61, 48, 48, 50, 67, 32, 104, 121, 112, 104, 101, 110, 61, 48, 48, 50, 68, 32, 112, 101, 114, 105, 111, 100, 61, 48, 48, 50, 69, 32, 115, 108, 97, 115, 104, 61, 48, 48, 50, 70, 32, 122, 101, 114, 111, 61, 48, 48, 51, 48, 32, 111, 110, 101, 61, 48, 48, 51, 49]⟩ : ByteArray), .string (⟨#[116, 119, 111, 61, 48, 48, 51, 50, 32, 116, 104, 114, 101, 101, 61, 48, 48, 51, 51, 32, 102, 111, 117, 114, 61, 48, 48, 51, 52, 32, 102, 105, 118, 101, 61, 48, 48, 51, 53, 32, 115, 105, 120, 61, 48, 48, 51, 54, 32, 115, 101, 118, 101, 110, 61, 48, 48, 51, 55]⟩ : ByteArray), .string (⟨#[101, 105, 103, 104, 116, 61, 48, 48, 51, 56, 32, 110, 105, 110, 101, 61, 48, 48, 51, 57, 32, 99, 111, 108, 111, 110, 61, 48, 48, 51, 65, 32, 115, 101, 109, 105, 99, 111, 108, 111, 110, 61, 48, 48, 51, 66, 32, 108, 101, 115, 115, 61, 48, 48, 51, 67, 32, 101, 113, 117, 97, 108, 61, 48, 48, 51, 68]⟩ : ByteArray), .string (⟨#[103, 114, 101, 97, 116, 101, 114, 61, 48, 48, 51, 69, 32, 113, 117, 101, 115, 116, 105, 111, 110, 61, 48, 48, 51, 70, 32, 97, 116, 61, 48, 48, 52, 48, 32, 65, 61, 48, 48, 52, 49, 32, 66, 61, 48, 48, 52, 50, 32, 67, 61, 48, 48, 52, 51]⟩ : ByteArray), .string (⟨#[68, 61, 48, 48, 52, 52, 32, 69, 61, 48, 48, 52, 53, 32, 70, 61, 48, 48, 52, 54, 32, 71, 61, 48, 48, 52, 55, 32, 72, 61, 48, 48, 52, 56, 32, 73, 61, 48, 48, 52, 57]⟩ : ByteArray), .string (⟨#[74, 61, 48, 48, 52, 65, 32, 75, 61, 48, 48, 52, 66, 32, 76, 61, 48, 48, 52, 67, 32, 77, 61, 48, 48, 52, 68, 32, 78, 61, 48, 48, 52, 69, 32, 79, 61, 48, 48, 52, 70]⟩ : ByteArray), .string (⟨#[80, 61, 48, 48, 53, 48, 32, 81, 61, 48, 48, 53, 49, 32, 82, 61, 48, 48, 53, 50, 32, 83, 61, 48, 48, 53, 51, 32, 84, 61, 48, 48, 53, 52, 32, 85, 61, 48, 48, 53, 53]⟩ : ByteArray), .string (⟨#[86, 61, 48, 48, 53, 54, 32, 87, 61, 48, 48, 53, 55, 32, 88, 61, 48, 48, 53, 56, 32, 89, 61, 48, 48, 53, 57, 32, 90, 61, 48, 48, 53, 65, 32, 98, 114, 97, 99, 107, 101, 116, 108, 101, 102, 116, 61, 48, 48, 53, 66]⟩ : ByteArray), .string (⟨#[98, 97, 99, 107, 115, 108, 97, 115, 104, 61, 48, 48, 53, 67, 32, 98, 114, 97, 99, 107, 101, 116, 114, 105, 103, 104, 116, 61, 48, 48, 53, 68, 32, 97, 115, 99, 105, 105, 99, 105, 114, 99, 117, 109, 61, 48, 48, 53, 69, 32, 117, 110, 100, 101, 114, 115, 99, 111, 114, 101, 61, 48, 48, 53, 70, 32, 103, 114, 97, 118, 101, 61, 48, 48, 54, 48, 32, 97, 61, 48, 48, 54, 49]⟩ : ByteArray), .string (⟨#[98, 61, 48, 48, 54, 50, 32, 99, 61, 48, 48, 54, 51, 32, 100, 61, 48, 48, 54, 52, 32, 101, 61, 48, 48, 54, 53, 32, 102, 61, 48, 48, 54, 54, 32, 103, 61, 48, 48, 54, 55]⟩ : ByteArray), .string (⟨#[104, 61, 48, 48, 54, 56, 32, 105, 61, 48, 48, 54, 57, 32, 106, 61, 48, 48, 54, 65, 32, 107, 61, 48, 48, 54, 66, 32, 108, 61, 48, 48, 54, 67, 32, 109, 61, 48, 48, 54, 68]⟩ : ByteArray), .string (⟨#[110, 61, 48, 48, 54, 69, 32, 111, 61, 48, 48, 54, 70, 32, 112, 61, 48, 48, 55, 48, 32, 113, 61, 48, 48, 55, 49, 32, 114, 61, 48, 48, 55, 50, 32, 115, 61, 48, 48, 55, 51]⟩ : ByteArray), .string (⟨#[116, 61, 48, 48, 55, 52, 32, 117, 61, 48, 48, 55, 53, 32, 118, 61, 48, 48, 55, 54, 32, 119, 61, 48, 48, 55, 55, 32, 120, 61, 48, 48, 55, 56, 32, 121, 61, 48, 48, 55, 57]⟩ : ByteArray), .string (⟨#[122, 61, 48, 48, 55, 65, 32, 98, 114, 97, 99, 101, 108, 101, 102, 116, 61, 48, 48, 55, 66, 32, 98, 97, 114, 61, 48, 48, 55, 67, 32, 98, 114, 97, 99, 101, 114, 105, 103, 104, 116, 61, 48, 48, 55, 68, 32, 97, 115, 99, 105, 105, 116, 105, 108, 100, 101, 61, 48, 48, 55, 69, 32, 101, 120, 99, 108, 97, 109, 100, 111, 119, 110, 61, 48, 48, 65, 49]⟩ : ByteArray), .string (⟨#[99, 101, 110, 116, 61, 48, 48, 65, 50, 32, 115, 116, 101, 114, 108, 105, 110, 103, 61, 48, 48, 65, 51, 32, 99, 117, 114, 114, 101, 110, 99, 121, 61, 48, 48, 65, 52, 32, 121, 101, 110, 61, 48, 48, 65, 53, 32, 98, 114, 111, 107, 101, 110, 98, 97, 114, 61, 48, 48, 65, 54, 32, 115, 101, 99, 116, 105, 111, 110, 61, 48, 48, 65, 55]⟩ : ByteArray), .string (⟨#[100, 105, 101, 114, 101, 115, 105, 115, 61, 48, 48, 65, 56, 32, 99, 111, 112, 121, 114, 105, 103, 104, 116, 61, 48, 48, 65, 57, 32, 111, 114, 100, 102, 101, 109, 105, 110, 105, 110, 101, 61, 48, 48, 65, 65, 32, 103, 117, 105, 108, 108, 101, 109, 111, 116, 108, 101, 102, 116, 61, 48, 48, 65, 66, 32, 108, 111, 103, 105, 99, 97, 108, 110, 111, 116, 61, 48, 48, 65, 67, 32, 114, 101, 103, 105, 115, 116, 101, 114, 101, 100, 61, 48, 48, 65, 69]⟩ : ByteArray), .string (⟨#[109, 97, 99, 114, 111, 110, 61, 48, 48, 65, 70, 32, 100, 101, 103, 114, 101, 101, 61, 48, 48, 66, 48, 32, 112, 108, 117, 115, 109, 105, 110, 117, 115, 61, 48, 48, 66, 49, 32, 116, 119, 111, 115, 117, 112, 101, 114, 105, 111, 114, 61, 48, 48, 66, 50, 32, 116, 104, 114, 101, 101, 115, 117, 112, 101, 114, 105, 111, 114, 61, 48, 48, 66, 51, 32, 97, 99, 117, 116, 101, 61, 48, 48, 66, 52]⟩ : ByteArray), .string (⟨#[109, 117, 61, 48, 48, 66, 53, 32, 112, 97, 114, 97, 103, 114, 97, 112, 104, 61, 48, 48, 66, 54, 32, 112, 101, 114, 105, 111, 100, 99, 101, 110, 116, 101, 114, 101, 100, 61, 48, 48, 66, 55, 32, 99, 101, 100, 105, 108, 108, 97, 61, 48, 48, 66, 56, 32, 111, 110, 101, 115, 117, 112, 101, 114, 105, 111, 114, 61, 48, 48, 66, 57, 32, 111, 114, 100, 109, 97, 115, 99, 117, 108, 105, 110, 101, 61, 48, 48, 66, 65]⟩ : ByteArray), .string (⟨#[103, 117, 105, 108, 108, 101, 109, 111, 116, 114, 105, 103, 104, 116, 61, 48, 48, 66, 66, 32, 111, 110, 101, 113, 117, 97, 114, 116, 101, 114, 61, 48, 48, 66, 67, 32, 111, 110, 101, 104, 97, 108, 102, 61, 48, 48, 66, 68, 32, 116, 104, 114, 101, 101, 113, 117, 97, 114, 116, 101, 114, 115, 61, 48, 48, 66, 69, 32, 113, 117, 101, 115, 116, 105, 111, 110, 100, 111, 119, 110, 61, 48, 48, 66, 70, 32, 65, 103, 114, 97, 118, 101, 61, 48, 48, 67, 48]⟩ : ByteArray), .string (⟨#[65, 97, 99, 117, 116, 101, 61, 48, 48, 67, 49, 32, 65, 99, 105, 114, 99, 117, 109, 102, 108, 101, 120, 61, 48, 48, 67, 50, 32, 65, 116, 105, 108, 100, 101, 61, 48, 48, 67, 51, 32, 65, 100, 105, 101, 114, 101, 115, 105, 115, 61, 48, 48, 67, 52, 32, 65, 114, 105, 110, 103, 61, 48, 48, 67, 53, 32, 65, 69, 61, 48, 48, 67, 54]⟩ : ByteArray), .string (⟨#[67, 99, 101, 100, 105, 108, 108, 97, 61, 48, 48, 67, 55, 32, 69, 103, 114, 97, 118, 101, 61, 48, 48, 67, 56, 32, 69, 97, 99, 117, 116, 101, 61, 48, 48, 67, 57, 32, 69, 99, 105, 114, 99, 117, 109, 102, 108, 101, 120, 61, 48, 48, 67, 65, 32, 69, 100, 105, 101, 114, 101, 115, 105, 115, 61, 48, 48, 67, 66, 32, 73, 103, 114, 97, 118, 101, 61, 48, 48, 67, 67]⟩ : ByteArray), .string (⟨#[73, 97, 99, 117, 116, 101, 61, 48, 48, 67, 68, 32, 73, 99, 105, 114, 99, 117, 109, 102, 108, 101, 120, 61, 48, 48, 67, 69, 32, 73, 100, 105, 101, 114, 101, 115, 105, 115, 61, 48, 48, 67, 70, 32, 69, 116, 104, 61, 48, 48, 68, 48, 32, 78, 116, 105, 108, 100, 101, 61, 48, 48, 68, 49, 32, 79, 103, 114, 97, 118, 101, 61, 48, 48, 68, 50]⟩ : ByteArray), .string (⟨#[79, 97, 99, 117, 116, 101, 61, 48, 48, 68, 51, 32, 79, 99, 105, 114, 99, 117, 109, 102, 108, 101, 120, 61, 48, 48, 68, 52, 32, 79, 116, 105, 108, 100, 101, 61, 48, 48, 68, 53, 32, 79, 100, 105, 101, 114, 101, 115, 105, 115, 61, 48, 48, 68, 54, 32, 109, 117, 108, 116, 105, 112, 108, 121, 61, 48, 48, 68, 55, 32, 79, 115, 108, 97, 115, 104, 61, 48, 48, 68, 56]⟩ : ByteArray), .string (⟨#[85, 103, 114, 97, 118, 101, 61, 48, 48, 68, 57, 32, 85, 97, 99, 117, 116, 101, 61, 48, 48, 68, 65, 32, 85, 99, 105, 114, 99, 117, 109, 102, 108, 101, 120, 61, 48, 48, 68, 66, 32, 85, 100, 105, 101, 114, 101, 115, 105, 115, 61, 48, 48, 68, 67, 32, 89, 97, 99, 117, 116, 101, 61, 48, 48, 68, 68, 32, 84, 104, 111, 114, 110, 61, 48, 48, 68, 69]⟩ : ByteArray), .string (⟨#[103, 101, 114, 109, 97, 110, 100, 98, 108, 115, 61, 48, 48, 68, 70, 32, 97, 103, 114, 97, 118, 101, 61, 48, 48, 69, 48, 32, 97, 97, 99, 117, 116, 101, 61, 48, 48, 69, 49, 32, 97, 99, 105, 114, 99, 117, 109, 102, 108, 101, 120, 61, 48, 48, 69, 50, 32, 97, 116, 105, 108, 100, 101, 61, 48, 48, 69, 51, 32, 97, 100, 105, 101, 114, 101, 115, 105, 115, 61, 48, 48, 69, 52]⟩ : ByteArray), .string (⟨#[97, 114, 105, 110, 103, 61, 48, 48, 69, 53, 32, 97, 101, 61, 48, 48, 69, 54, 32, 99, 99, 101, 100, 105, 108, 108, 97, 61, 48, 48, 69, 55, 32, 101, 103, 114, 97, 118, 101, 61, 48, 48, 69, 56, 32, 101, 97, 99, 117, 116, 101, 61, 48, 48, 69, 57, 32, 101, 99, 105, 114, 99, 117, 109, 102, 108, 101, 120, 61, 48, 48, 69, 65]⟩ : ByteArray), .string (⟨#[101, 100, 105, 101, 114, 101, 115, 105, 115, 61, 48, 48, 69, 66, 32, 105, 103, 114, 97, 118, 101, 61, 48, 48, 69, 67, 32, 105, 97, 99, 117, 116, 101, 61, 48, 48, 69, 68, 32, 105, 99, 105, 114, 99, 117, 109, 102, 108, 101, 120, 61, 48, 48, 69, 69, 32, 105, 100, 105, 101, 114, 101, 115, 105, 115, 61, 48, 48, 69, 70, 32, 101, 116, 104, 61, 48, 48, 70, 48]⟩ : ByteArray), .string (⟨#[110, 116, 105, 108, 100, 101, 61, 48, 48, 70, 49, 32, 111, 103, 114, 97, 118, 101, 61, 48, 48, 70, 50, 32, 111, 97, 99, 117, 116, 101, 61, 48, 48, 70, 51, 32, 111, 99, 105, 114, 99, 117, 109, 102, 108, 101, 120, 61, 48, 48, 70, 52, 32, 111, 116, 105, 108, 100, 101, 61, 48, 48, 70, 53, 32, 111, 100, 105, 101, 114, 101, 115, 105, 115, 61, 48, 48, 70, 54]⟩ : ByteArray)]) (ok := fun _ => True) (okp := fun _ => True) ?hr ?hp (fun _ hk => hk) trivial (Below.refl _ _) (Nat.le_refl _) (by simp) ?_; (case hd => rfl); (case hg => rfl); (case hr => first | (go_simp; done) | (go_simp; rfl)); (case hp => exact (Reps.one (show Kd.M Kd.string _ _ _ (⟨#[115, 112, 97, 99, 101, 61, 48, 48, 50, 48, 32, 101, 120, 99, 108, 97, 109, 61, 48, 48, 50, 49, 32, 113, 117, 111, 116, 101, 100, 98, 108, 61, 48, 48, 50, 50, 32, 110, 117, 109, 98, 101, 114, 115, 105, 103, 110, 61, 48, 48, 50, 51, 32, 100, 111, 108, 108, 97, 114, 61, 48, 48, 50, 52, 32, 112, 101, 114, 99, 101, 110, 116, 61, 48, 48, 50, 53]⟩ : ByteArray) [.string (⟨#[115, 112, 97, 99, 101, 61, 48, 48, 50, 48, 32, 101, 120, 99, 108, 97, 109, 61, 48, 48, 50, 49, 32, 113, 117, 111, 116, 101, 100, 98, 108, 61, 48, 48, 50, 50, 32, 110, 117, 109, 98, 101, 114, 115, 105, 103, 110, 61, 48, 48, 50, 51, 32, 100, 111, 108, 108, 97, 114, 61, 48, 48, 50, 52, 32, 112, 101, 114, 99, 101, 110, 116, 61, 48, 48, 50, 53]⟩ : ByteArray)] from rfl) (Reps.one (show Kd.M Kd.string _ _ _ (⟨#[97, 109, 112, 101, 114, 115, 97, 110, 100, 61, 48, 48, 50, 54, 32, 113, 117, 111, 116, 101, 115, 105, 110, 103, 108, 101, 61, 48, 48, 50, 55, 32, 112, 97, 114, 101, 110, 108, 101, 102, 116, 61, 48, 48, 50, 56, 32, 112, 97, 114, 101, 110, 114, 105, 103, 104, 116, 61, 48, 48, 50, 57, 32, 97, 115, 116, 101, 114, 105, 115, 107, 61, 48, 48, 50, 65, 32, 112, 108, 117, 115, 61, 48, 48, 50, 66]⟩ : ByteArray) [.string (⟨#[97, 109, 112, 101, 114, 115, 97, 110, 100, 61, 48, 48, 50, 54, 32, 113, 117, 111, 116, 101, 115, 105, 110, 103, 108, 101, 61, 48, 48, 50, 55, 32, 112, 97, 114, 101, 110, 108, 101, 102, 116, 61, 48, 48, 50, 56, 32, 112, 97, 114, 101, 110, 114, 105, 103, 104, 116, 61, 48, 48, 50, 57, 32, 97, 115, 116, 101, 114, 105, 115, 107, 61, 48, 48, 50, 65, 32, 112, 108, 117, 115, 61, 48, 48, 50, 66]⟩ : ByteArray)] from rfl) (Reps.one (show Kd.M Kd.string _ _ _ (⟨#[99, 111, 109, 109, 97, 61, 48, 48, 50, 67, 32, 104, 121, 112, 104, 101, 110, 61, 48, 48, 50, 68, 32, 112, 101, 114, 105, 111, 100, 61, 48, 48, 50, 69, 32, 115, 108, 97, 115, 104, 61, 48, 48, 50, 70, 32, 122, 101, 114, 111, 61, 48, 48, 51, 48, 32, 111, 110, 101, 61, 48, 48, 51, 49]⟩ : ByteArray) [.string (⟨#[99, 111, 109, 109, 97, 61, 48, 48, 50, 67, 32, 104, 121, 112, 104, 101, 110, 61, 48, 48, 50, 68, 32, 112, 101, 114, 105, 111, 100, 61, 48, 48, 50, 69, 32, 115, 108, 97, 115, 104, 61, 48, 48, 50, 70, 32, 122, 101, 114, 111, 61, 48, 48, 51, 48, 32, 111, 110, 101, 61, 48, 48, 51, 49]⟩ : ByteArray)] from rfl) (Reps.one (show Kd.M Kd.string _ _ _ (⟨#[116, 119, 111, 61, 48, 48, 51, 50, 32, 116, 104, 114, 101, 101, 61, 48, 48, 51, 51, 32, 102, 111, 117, 114, 61, 48, 48, 51, 52, 32, 102, 105, 118, 101, 61, 48, 48, 51, 53, 32, 115, 105, 120, 61, 48, 48, 51, 54, 32, 115, 101, 118, 101, 110, 61, 48, 48, 51, 55]⟩ : ByteArray) [.string (⟨#[116, 119, 111, 61, 48, 48, 51, 50, 32, 116, 104, 114, 101, 101, 61, 48, 48, 51, 51, 32, 102, 111, 117, 114, 61, 48, 48, 51, 52, 32, 102, 105, 118, 101, 61, 48, 48, 51, 53, 32, 115, 105, 120, 61, 48, 48, 51, 54, 32, 115, 101, 118, 101, 110, 61, 48, 48, 51, 55]⟩ : ByteArray)] from rfl) (Reps.one (show Kd.M Kd.string _ _ _ (⟨#[101, 105, 103, 104, 116, 61, 48, 48, 51, 56, 32, 110, 105, 110, 101, 61, 48, 48, 51, 57, 32, 99, 111, 108, 111, 110, 61, 48, 48, 51, 65, 32, 115, 101, 109, 105, 99, 111, 108, 111, 110, 61, 48, 48, 51, 66, 32, 108, 101, 115, 115, 61, 48, 48, 51, 67, 32, 101, 113, 117, 97, 108, 61, 48, 48, 51, 68]⟩ : ByteArray) [.string (⟨#[101, 105, 103, 104, 116, 61, 48, 48, 51, 56, 32, 110, 105, 110, 101, 61, 48, 48, 51, 57, 32, 99, 111, 108, 111, 110, 61, 48, 48, 51, 65, 32, 115, 101, 109, 105, 99, 111, 108, 111, 110, 61, 48, 48, 51, 66, 32, 108, 101, 115, 115, 61, 48, 48, 51, 67, 32, 101, 113, 117, 97, 108, 61, 48, 48, 51, 68]⟩ : ByteArray)] from rfl) (Reps.one (show Kd.M Kd.string _ _ _ (⟨#[103, 114, 101, 97, 116, 101, 114, 61, 48, 48, 51, 69, 32, 113, 117, 101, 115, 116, 105, 111, 110, 61, 48, 48, 51, 70, 32, 97, 116, 61, 48, 48, 52, 48, 32, 65, 61, 48, 48, 52, 49, 32, 66, 61, 48, 48, 52, 50, 32, 67, 61, 48, 48, 52, 51]⟩ : ByteArray) [.string (⟨#[103, 114, 101, 97, 116, 101, 114, 61, 48, 48, 51, 69, 32, 113, 117, 101, 115, 116, 105, 111, 110, 61, 48, 48, 51, 70, 32, 97, 116, 61, 48, 48, 52, 48, 32, 65, 61, 48, 48, 52, 49, 32, 66, 61, 48, 48, 52, 50, 32, 67, 61, 48, 48, 52, 51]⟩ : ByteArray)] from rfl) (Reps.one (show Kd.M Kd.string _ _ _ (⟨#[68, 61, 48, 48, 52, 52, 32, 69, 61, 48, 48, 52, 53, 32, 70, 61, 48, 48, 52, 54, 32, 71, 61, 48, 48, 52, 55, 32, 72, 61, 48, 48, 52, 56, 32, 73, 61, 48, 48, 52, 57]⟩ : ByteArray) [.string (⟨#[68, 61, 48, 48, 52, 52, 32, 69, 61, 48, 48, 52, 53, 32, 70, 61, 48, 48, 52, 54, 32, 71, 61, 48, 48, 52, 55, 32, 72, 61, 48, 48, 52, 56, 32, 73, 61, 48, 48, 52, 57]⟩ : ByteArray)] from rfl) (Reps.one (show Kd.M Kd.string _ _ _ (⟨#[74, 61, 48, 48, 52, 65, 32, 75, 61, 48, 48, 52, 66, 32, 76, 61, 48, 48, 52, 67, 32, 77, 61, 48, 48, 52, 68, 32, 78, 61, 48, 48, 52, 69, 32, 79, 61, 48, 48, 52, 70]⟩ : ByteArray) [.string (⟨#[74, 61, 48, 48, 52, 65, 32, 75, 61, 48, 48, 52, 66, 32, 76, 61, 48, 48, 52, 67, 32, 77, 61, 48, 48, 52, 68, 32, 78, 61, 48, 48, 52, 69, 32, 79, 61, 48, 48, 52, 70]⟩ : ByteArray)] from rfl) (Reps.one (show Kd.M Kd.string _ _ _ (⟨#[80, 61, 48, 48, 53, 48, 32, 81, 61, 48, 48, 53, 49, 32, 82, 61, 48, 48, 53, 50, 32, 83, 61, 48, 48, 53, 51, 32, 84, 61, 48, 48, 53, 52, 32, 85, 61, 48, 48, 53, 53]⟩ : ByteArray) [.string (⟨#[80, 61, 48, 48, 53, 48, 32, 81, 61, 48, 48, 53, 49, 32, 82, 61, 48, 48, 53, 50, 32, 83, 61, 48, 48, 53, 51, 32, 84, 61, 48, 48, 53, 52, 32, 85, 61, 48, 48, 53, 53]⟩ : ByteArray)] from rfl) (Reps.one (show Kd.M Kd.string _ _ _ (⟨#[86, 61, 48, 48, 53, 54, 32, 87, 61, 48, 48, 53, 55, 32, 88, 61, 48, 48, 53, 56, 32, 89, 61, 48, 48, 53, 57, 32, 90, 61, 48, 48, 53, 65, 32, 98, 114, 97, 99, 107, 101, 116, 108, 101, 102, 116, 61, 48, 48, 53, 66]⟩ : ByteArray) [.string (⟨#[86, 61, 48, 48, 53, 54, 32, 87, 61, 48, 48, 53, 55, 32, 88, 61, 48, 48, 53, 56, 32, 89, 61, 48, 48, 53, 57, 32, 90, 61, 48, 48, 53, 65, 32, 98, 114, 97, 99, 107, 101, 116, 108, 101, 102, 116, 61, 48, 48, 53, 66]⟩ : ByteArray)] from rfl) (Reps.one (show Kd.M Kd.string _ _ _ (⟨#[98, 97, 99, 107, 115, 108, 97, 115, 104, 61, 48, 48, 53, 67, 32, 98, 114, 97, 99, 107, 101, 116, 114, 105, 103, 104, 116, 61, 48, 48, 53, 68, 32, 97, 115, 99, 105, 105, 99, 105, 114, 99, 117, 109, 61, 48, 48, 53, 69, 32, 117, 110, 100, 101, 114, 115, 99, 111, 114, 101, 61, 48, 48, 53, 70, 32, 103, 114, 97, 118, 101, 61, 48, 48, 54, 48, 32, 97, 61, 48, 48, 54, 49]⟩ : ByteArray) [.string (⟨#[98, 97, 99, 107, 115, 108, 97, 115, 104, 61, 48, 48, 53, 67, 32, 98, 114, 97, 99, 107, 101, 116, 114, 105, 103, 104, 116, 61, 48, 48, 53, 68, 32, 97, 115, 99, 105, 105, 99, 105, 114, 99, 117, 109, 61, 48, 48, 53, 69, 32, 117, 110, 100, 101, 114, 115, 99, 111, 114, 101, 61, 48, 48, 53, 70, 32, 103, 114, 97, 118, 101, 61, 48, 48, 54, 48, 32, 97, 61, 48, 48, 54, 49]⟩ : ByteArray)] from rfl) (Reps.one (show Kd.M Kd.string _ _ _ (⟨#[98, 61, 48, 48, 54, 50, 32, 99, 61, 48, 48, 54, 51, 32, 100, 61, 48, 48, 54, 52, 32, 101, 61, 48, 48, 54, 53, 32, 102, 61, 48, 48, 54, 54, 32, 103, 61, 48, 48, 54, 55]⟩ : ByteArray) [.string (⟨#[98, 61, 48, 48, 54, 50, 32, 99, 61, 48, 48, 54, 51, 32, 100, 61, 48, 48, 54, 52, 32, 101, 61, 48, 48, 54, 53, 32, 102, 61, 48, 48, 54, 54, 32, 103, 61, 48, 48, 54, 55]⟩ : ByteArray)] from rfl) (Reps.one (show Kd.M Kd.string _ _ _ (⟨#[104, 61, 48, 48, 54, 56, 32, 105, 61, 48, 48, 54, 57, 32, 106, 61, 48, 48, 54, 65, 32, 107, 61, 48, 48, 54, 66, 32, 108, 61, 48, 48, 54, 67, 32, 109, 61, 48, 48, 54, 68]⟩ : ByteArray) [.string (⟨#[104, 61, 48, 48, 54, 56, 32, 105, 61, 48, 48, 54, 57, 32, 106, 61, 48, 48, 54, 65, 32, 107, 61, 48, 48, 54, 66, 32, 108, 61, 48, 48, 54, 67, 32, 109, 61, 48, 48, 54, 68]⟩ : ByteArray)] from rfl) (Reps.one (show Kd.M Kd.string _ _ _ (⟨#[110, 61, 48, 48, 54, 69, 32, 111, 61, 48, 48, 54, 70, 32, 112, 61, 48, 48, 55, 48, 32, 113, 61, 48, 48, 55, 49, 32, 114, 61, 48, 48, 55, 50, 32, 115, 61, 48, 48, 55, 51]⟩ : ByteArray) [.string (⟨#[110, 61, 48, 48, 54, 69, 32, 111, 61, 48, 48, 54, 70, 32, 112, 61, 48, 48, 55, 48, 32, 113, 61, 48, 48, 55, 49, 32, 114, 61, 48, 48, 55, 50, 32, 115, 61, 48, 48, 55, 51]⟩ : ByteArray)] from rfl) (Reps.one (show Kd.M Kd.string _ _ _ (⟨#[116, 61, 48, 48, 55, 52, 32, 117, 61, 48, 48, 55, 53, 32, 118, 61, 48, 48, 55, 54, 32, 119, 61, 48, 48, 55, 55, 32, 120, 61, 48, 48, 55, 56, 32, 121, 61, 48, 48, 55, 57]⟩ : ByteArray) [.string (⟨#[116, 61, 48, 48, 55, 52, 32, 117, 61, 48, 48, 55, 53, 32, 118, 61, 48, 48, 55, 54, 32, 119, 61, 48, 48, 55, 55, 32, 120, 61, 48, 48, 55, 56, 32, 121, 61, 48, 48, 55, 57]⟩ : ByteArray)] from rfl) (Reps.one (show Kd.M Kd.string _ _ _ (⟨#[122, 61, 48, 48, 55, 65, 32, 98, 114, 97, 99, 101, 108, 101, 102, 116, 61, 48, 48, 55, 66, 32, 98, 97, 114, 61, 48, 48, 55, 67, 32, 98, 114, 97, 99, 101, 114, 105, 103, 104, 116, 61, 48, 48, 55, 68, 32, 97, 115, 99, 105, 105, 116, 105, 108, 100, 101, 61, 48, 48, 55, 69, 32, 101, 120, 99, 108, 97, 109, 100, 111, 119, 110, 61, 48, 48, 65, 49]⟩ : ByteArray) [.string (⟨#[122, 61, 48, 48, 55, 65, 32, 98, 114, 97, 99, 101, 108, 101, 102, 116, 61, 48, 48, 55, 66, 32, 98, 97, 114, 61, 48, 48, 55, 67, 32, 98, 114, 97, 99, 101, 114, 105, 103, 104, 116, 61, 48, 48, 55, 68, 32, 97, 115, 99, 105, 105, 116, 105, 108, 100, 101, 61, 48, 48, 55, 69, 32, 101, 120, 99, 108, 97, 109, 100, 111, 119, 110, 61, 48, 48, 65, 49]⟩ : ByteArray)] from rfl) (Reps.one (show Kd.M Kd.string _ _ _ (⟨#[99, 101, 110, 116, 61, 48, 48, 65, 50, 32, 115, 116, 101, 114, 108, 105, 110, 103, 61, 48, 48, 65, 51, 32, 99, 117, 114, 114, 101, 110, 99, 121, 61, 48, 48, 65, 52, 32, 121, 101, 110, 61, 48, 48, 65, 53, 32, 98, 114, 111, 107, 101, 110, 98, 97, 114, 61, 48, 48, 65, 54, 32, 115, 101, 99, 116, 105, 111, 110, 61, 48, 48, 65, 55]⟩ : ByteArray) [.string (⟨#[99, 101, 110, 116, 61, 48, 48, 65, 50, 32, 115, 116, 101, 114, 108, 105, 110, 103, 61, 48, 48, 65, 51, 32, 99, 117, 114, 114, 101, 110, 99, 121, 61, 48, 48, 65, 52, 32, 121, 101, 110, 61, 48, 48, 65, 53, 32, 98, 114, 111, 107, 101, 110, 98, 97, 114, 61, 48, 48, 65, 54, 32, 115, 101, 99, 116, 105, 111, 110, 61, 48, 48, 65, 55]⟩ : ByteArray)] from rfl) (Reps.one (show Kd.M Kd.string _ _ _ (⟨#[100, 105, 101, 114, 101, 115, 105, 115, 61, 48, 48, 65, 56, 32, 99, 111, 112, 121, 114, 105, 103, 104, 116, 61, 48, 48, 65, 57, 32, 111, 114, 100, 102, 101, 109, 105, 110, 105, 110, 101, 61, 48, 48, 65, 65, 32, 103, 117, 105, 108, 108, 101, 109, 111, 116, 108, 101, 102, 116, 61, 48, 48, 65, 66, 32, 108, 111, 103, 105, 99, 97, 108, 110, 111, 116, 61, 48, 48, 65, 67, 32, 114, 101, 103, 105, 115, 116, 101, 114, 101, 100, 61, 48, 48, 65, 69]⟩ : ByteArray) [.string (⟨#[100, 105, 101, 114, 101, 115, 105, 115, 61, 48, 48, 65, 56, 32, 99, 111, 112, 121, 114, 105, 103, 104, 116, 61, 48, 48, 65, 57, 32, 111, 114, 100, 102, 101, 109, 105, 110, 105, 110, 101, 61, 48, 48, 65, 65, 32, 103, 117, 105, 108, 108, 101, 109, 111, 116, 108, 101, 102, 116, 61, 48, 48, 65, 66, 32, 108, 111, 103, 105, 99, 97, 108, 110, 111, 116, 61, 48, 48, 65, 67, 32, 114, 101, 103, 105, 115, 116, 101, 114, 101, 100, 61, 48, 48, 65, 69]⟩ : ByteArray)] from rfl) (Reps.one (show Kd.M Kd.string _ _ _ (⟨#[109, 97, 99, 114, 111, 110, 61, 48, 48, 65, 70, 32, 100, 101, 103, 114, 101, 101, 61, 48, 48, 66, 48, 32, 112, 108, 117, 115, 109, 105, 110, 117, 115, 61, 48, 48, 66, 49, 32, 116, 119, 111, 115, 117, 112, 101, 114, 105, 111, 114, 61, 48, 48, 66, 50, 32, 116, 104, 114, 101, 101, 115, 117, 112, 101, 114, 105, 111, 114, 61, 48, 48, 66, 51, 32, 97, 99, 117, 116, 101, 61, 48, 48, 66, 52]⟩ : ByteArray) [.string (⟨#[109, 97, 99, 114, 111, 110, 61, 48, 48, 65, 70, 32, 100, 101, 103, 114, 101, 101, 61, 48, 48, 66, 48, 32, 112, 108, 117, 115, 109, 105, 110, 117, 115, 61, 48, 48, 66, 49, 32, 116, 119, 111, 115, 117, 112, 101, 114, 105, 111, 114, 61, 48, 48, 66, 50, 32, 116, 104, 114, 101, 101, 115, 117, 112, 101, 114, 105, 111, 114, 61, 48, 48, 66, 51, 32, 97, 99, 117, 116, 101, 61, 48, 48, 66, 52]⟩ : ByteArray)] from rfl) (Reps.one (show Kd.M Kd.string _ _ _ (⟨#[109, 117, 61, 48, 48, 66, 53, 32, 112, 97, 114, 97, 103, 114, 97, 112, 104, 61, 48, 48, 66, 54, 32, 112, 101, 114, 105, 111, 100, 99, 101, 110, 116, 101, 114, 101, 100, 61, 48, 48, 66, 55, 32, 99, 101, 100, 105, 108, 108, 97, 61, 48, 48, 66, 56, 32, 111, 110, 101, 115, 117, 112, 101, 114, 105, 111, 114, 61, 48, 48, 66, 57, 32, 111, 114, 100, 109, 97, 115, 99, 117, 108, 105, 110, 101, 61, 48, 48, 66, 65]⟩ : ByteArray) [.string (⟨#[109, 117, 61, 48, 48, 66, 53, 32, 112, 97, 114, 97, 103, 114, 97, 112, 104, 61, 48, 48, 66, 54, 32, 112, 101, 114, 105, 111, 100, 99, 101, 110, 116, 101, 114, 101, 100, 61, 48, 48, 66, 55, 32, 99, 101, 100, 105, 108, 108, 97, 61, 48, 48, 66, 56, 32, 111, 110, 101, 115, 117, 112, 101, 114, 105, 111, 114, 61, 48, 48, 66, 57, 32, 111, 114, 100, 109, 97, 115, 99, 117, 108, 105, 110, 101, 61, 48, 48, 66, 65]⟩ : ByteArray)] from rfl) (Reps.one (show Kd.M Kd.string _ _ _ (⟨#[103, 117, 105, 108, 108, 101, 109, 111, 116, 114, 105, 103, 104, 116, 61, 48, 48, 66, 66, 32, 111, 110, 101, 113, 117, 97, 114, 116, 101, 114, 61, 48, 48, 66, 67, 32, 111, 110, 101, 104, 97, 108, 102, 61, 48, 48, 66, 68, 32, 116, 104, 114, 101, 101, 113, 117, 97, 114, 116, 101, 114, 115, 61, 48, 48, 66, 69, 32, 113, 117, 101, 115, 116, 105, 111, 110, 100, 111, 119, 110, 61, 48, 48, 66, 70, 32, 65, 103, 114, 97, 118, 101, 61, 48, 48, 67, 48]⟩ : ByteArray) [.string (⟨#[103, 117, 105, 108, 108, 101, 109, 111, 116, 114, 105, 103, 104, 116, 61, 48, 48, 66, 66, 32, 111, 110, 101, 113, 117, 97, 114, 116, 101, 114, 61, 48, 48, 66, 67, 32, 111, 110, 101, 104, 97, 108, 102, 61, 48, 48, 66, 68, 32, 116, 104, 114, 101, 101, 113, 117, 97, 114, 116, 101, 114, 115, 61, 48, 48, 66, 69, 32, 113, 117, 101, 115, 116, 105, 111, 110, 100, 111, 119, 110, 61, 48, 48, 66, 70, 32, 65, 103, 114, 97, 118, 101, 61, 48, 48, 67, 48]⟩ : ByteArray)] from rfl) (Reps.one (show Kd.M Kd.string _ _ _ (⟨#[65, 97, 99, 117, 116, 101, 61, 48, 48, 67, 49, 32, 65, 99, 105, 114, 99, 117, 109, 102, 108, 101, 120, 61, 48, 48, 67, 50, 32, 65, 116, 105, 108, 100, 101, 61, 48, 48, 67, 51, 32, 65, 100, 105, 101, 114, 101, 115, 105, 115, 61, 48, 48, 67, 52, 32, 65, 114, 105, 110, 103, 61, 48, 48, 67, 53, 32, 65, 69, 61, 48, 48, 67, 54]⟩ : ByteArray) [.string (⟨#[65, 97, 99, 117, 116, 101, 61, 48, 48, 67, 49, 32, 65, 99, 105, 114, 99, 117, 109, 102, 108, 101, 120, 61, 48, 48, 67, 50, 32, 65, 116, 105, 108, 100, 101, 61, 48, 48, 67, 51, 32, 65, 100, 105, 101, 114, 101, 115, 105, 115, 61, 48, 48, 67, 52, 32, 65, 114, 105, 110, 103, 61, 48, 48, 67, 53, 32, 65, 69, 61, 48, 48, 67, 54]⟩ : ByteArray)] from rfl) (Reps.one (show Kd.M Kd.string _ _ _ (⟨#[67, 99, 101, 100, 105, 108, 108, 97, 61, 48, 48, 67, 55, 32, 69, 103, 114, 97, 118, 101, 61, 48, 48, 67, 56, 32, 69, 97, 99, 117, 116, 101, 61, 48, 48, 67, 57, 32, 69, 99, 105, 114, 99, 117, 109, 102, 108, 101, 120, 61, 48, 48, 67, 65, 32, 69, 100, 105, 101, 114, 101, 115, 105, 115, 61, 48, 48, 67, 66, 32, 73, 103, 114, 97, 118, 101, 61, 48, 48, 67, 67]⟩ : ByteArray) [.string (⟨#[67, 99, 101, 100, 105, 108, 108, 97, 61, 48, 48, 67, 55, 32, 69, 103, 114, 97, 118, 101, 61, 48, 48, 67, 56, 32, 69, 97, 99, 117, 116, 101, 61, 48, 48, 67, 57, 32, 69, 99, 105, 114, 99, 117, 109, 102, 108, 101, 120, 61, 48, 48, 67, 65, 32, 69, 100, 105, 101, 114, 101, 115, 105, 115, 61, 48, 48, 67, 66, 32, 73, 103, 114, 97, 118, 101, 61, 48, 48, 67, 67]⟩ : ByteArray)] from rfl) (Reps.one (show Kd.M Kd.string _ _ _ (⟨#[73, 97, 99, 117, 116, 101, 61, 48, 48, 67, 68, 32, 73, 99, 105, 114, 99, 117, 109, 102, 108, 101, 120, 61, 48, 48, 67, 69, 32, 73, 100, 105, 101, 114, 101, 115, 105, 115, 61, 48, 48, 67, 70, 32, 69, 116, 104, 61, 48, 48, 68, 48, 32, 78, 116, 105, 108, 100, 101, 61, 48, 48, 68, 49, 32, 79, 103, 114, 97, 118, 101, 61, 48, 48, 68, 50]⟩ : ByteArray) [.string (⟨#[73, 97, 99, 117, 116, 101, 61, 48, 48, 67, 68, 32, 73, 99, 105, 114, 99, 117, 109, 102, 108, 101, 120, 61, 48, 48, 67, 69, 32, 73, 100, 105, 101, 114, 101, 115, 105, 115, 61, 48, 48, 67, 70, 32, 69, 116, 104, 61, 48, 48, 68, 48, 32, 78, 116, 105, 108, 100, 101, 61, 48, 48, 68, 49, 32, 79, 103, 114, 97, 118, 101, 61, 48, 48, 68, 50]⟩ : ByteArray)] from rfl) (Reps.one (show Kd.M Kd.string _ _ _ (⟨#[79, 97, 99, 117, 116, 101, 61, 48, 48, 68, 51, 32, 79, 99, 105, 114, 99, 117, 109, 102, 108, 101, 120, 61, 48, 48, 68, 52, 32, 79, 116, 105, 108, 100, 101, 61, 48, 48, 68, 53, 32, 79, 100, 105, 101, 114, 101, 115, 105, 115, 61, 48, 48, 68, 54, 32, 109, 117, 108, 116, 105, 112, 108, 121, 61, 48, 48, 68, 55, 32, 79, 115, 108, 97, 115, 104, 61, 48, 48, 68, 56]⟩ : ByteArray) [.string (⟨#[79, 97, 99, 117, 116, 101, 61, 48, 48, 68, 51, 32, 79, 99, 105, 114, 99, 117, 109, 102, 108, 101, 120, 61, 48, 48, 68, 52, 32, 79, 116, 105, 108, 100, 101, 61, 48, 48, 68, 53, 32, 79, 100, 105, 101, 114, 101, 115, 105, 115, 61, 48, 48, 68, 54, 32, 109, 117, 108, 116, 105, 112, 108, 121, 61, 48, 48, 68, 55, 32, 79, 115, 108, 97, 115, 104, 61, 48, 48, 68, 56]⟩ : ByteArray)] from rfl) (Reps.one (show Kd.M Kd.string _ _ _ (⟨#[85, 103, 114, 97, 118, 101, 61, 48, 48, 68, 57, 32, 85, 97, 99, 117, 116, 101, 61, 48, 48, 68, 65, 32, 85, 99, 105, 114, 99, 117, 109, 102, 108, 101, 120, 61, 48, 48, 68, 66, 32, 85, 100, 105, 101, 114, 101, 115, 105, 115, 61, 48, 48, 68, 67, 32, 89, 97, 99, 117, 116, 101, 61, 48, 48, 68, 68, 32, 84, 104, 111, 114, 110, 61, 48, 48, 68, 69]⟩ : ByteArray) [.string (⟨#[85, 103, 114, 97, 118, 101, 61, 48, 48, 68, 57, 32, 85, 97, 99, 117, 116, 101, 61, 48, 48, 68, 65, 32, 85, 99, 105, 114, 99, 117, 109, 102, 108, 101, 120, 61, 48, 48, 68, 66, 32, 85, 100, 105, 101, 114, 101, 115, 105, 115, 61, 48, 48, 68, 67, 32, 89, 97, 99, 117, 116, 101, 61, 48, 48, 68, 68, 32, 84, 104, 111, 114, 110, 61, 48, 48, 68, 69]⟩ : ByteArray)] from rfl) (Reps.one (show Kd.M Kd.string _ _ _ (⟨#[103, 101, 114, 109, 97, 110, 100, 98, 108, 115, 61, 48, 48, 68, 70, 32, 97, 103, 114, 97, 118, 101, 61, 48, 48, 69, 48, 32, 97, 97, 99, 117, 116, 101, 61, 48, 48, 69, 49, 32, 97, 99, 105, 114, 99, 117, 109, 102, 108, 101, 120, 61, 48, 48, 69, 50, 32, 97, 116, 105, 108, 100, 101, 61, 48, 48, 69, 51, 32, 97, 100, 105, 101, 114, 101, 115, 105, 115, 61, 48, 48, 69, 52]⟩ : ByteArray) [.string (⟨#[103, 101, 114, 109, 97, 110, 100, 98, 108, 115, 61, 48, 48, 68, 70, 32, 97, 103, 114, 97, 118, 101, 61, 48, 48, 69, 48, 32, 97, 97, 99, 117, 116, 101, 61, 48, 48, 69, 49, 32, 97, 99, 105, 114, 99, 117, 109, 102, 108, 101, 120, 61, 48, 48, 69, 50, 32, 97, 116, 105, 108, 100, 101, 61, 48, 48, 69, 51, 32, 97, 100, 105, 101, 114, 101, 115, 105, 115, 61, 48, 48, 69, 52]⟩ : ByteArray)] from rfl) (Reps.one (show Kd.M Kd.string _ _ _ (⟨#[97, 114, 105, 110, 103, 61, 48, 48, 69, 53, 32, 97, 101, 61, 48, 48, 69, 54, 32, 99, 99, 101, 100, 105, 108, 108, 97, 61, 48, 48, 69, 55, 32, 101, 103, 114, 97, 118, 101, 61, 48, 48, 69, 56, 32, 101, 97, 99, 117, 116, 101, 61, 48, 48, 69, 57, 32, 101, 99, 105, 114, 99, 117, 109, 102, 108, 101, 120, 61, 48, 48, 69, 65]⟩ : ByteArray) [.string (⟨#[97, 114, 105, 110, 103, 61, 48, 48, 69, 53, 32, 97, 101, 61, 48, 48, 69, 54, 32, 99, 99, 101, 100, 105, 108, 108, 97, 61, 48, 48, 69, 55, 32, 101, 103, 114, 97, 118, 101, 61, 48, 48, 69, 56, 32, 101, 97, 99, 117, 116, 101, 61, 48, 48, 69, 57, 32, 101, 99, 105, 114, 99, 117, 109, 102, 108, 101, 120, 61, 48, 48, 69, 65]⟩ : ByteArray)] from rfl) (Reps.one (show Kd.M Kd.string _ _ _ (⟨#[101, 100, 105, 101, 114, 101, 115, 105, 115, 61, 48, 48, 69, 66, 32, 105, 103, 114, 97, 118, 101, 61, 48, 48, 69, 67, 32, 105, 97, 99, 117, 116, 101, 61, 48, 48, 69, 68, 32, 105, 99, 105, 114, 99, 117, 109, 102, 108, 101, 120, 61, 48, 48, 69, 69, 32, 105, 100, 105, 101, 114, 101, 115, 105, 115, 61, 48, 48, 69, 70, 32, 101, 116, 104, 61, 48, 48, 70, 48]⟩ : ByteArray) [.string (⟨#[101, 100, 105, 101, 114, 101, 115, 105, 115, 61, 48, 48, 69, 66, 32, 105, 103, 114, 97, 118, 101, 61, 48, 48, 69, 67, 32, 105, 97, 99, 117, 116, 101, 61, 48, 48, 69, 68, 32, 105, 99, 105, 114, 99, 117, 109, 102, 108, 101, 120, 61, 48, 48, 69, 69, 32, 105, 100, 105, 101, 114, 101, 115, 105, 115, 61, 48, 48, 69, 70, 32, 101, 116, 104, 61, 48, 48, 70, 48]⟩ : ByteArray)] from rfl) (Reps.one (show Kd.M Kd.string _ _ _ (⟨#[110, 116, 105, 108, 100, 101, 61, 48, 48, 70, 49, 32, 111, 103, 114, 97, 118, 101, 61, 48, 48, 70, 50, 32, 111, 97, 99, 117, 116, 101, 61, 48, 48, 70, 51, 32, 111, 99, 105, 114, 99, 117, 109, 102, 108, 101, 120, 61, 48, 48, 70, 52, 32, 111, 116, 105, 108, 100, 101, 61, 48, 48, 70, 53, 32, 111, 100, 105, 101, 114, 101, 115, 105, 115, 61, 48, 48, 70, 54]⟩ : ByteArray) [.string (⟨#[110, 116, 105, 108, 100, 101, 61, 48, 48, 70, 49, 32, 111, 103, 114, 97, 118, 101, 61, 48, 48, 70, 50, 32, 111, 97, 99, 117, 116, 101, 61, 48, 48, 70, 51, 32, 111, 99, 105, 114, 99, 117, 109, 102, 108, 101, 120, 61, 48, 48, 70, 52, 32, 111, 116, 105, 108, 100, 101, 61, 48, 48, 70, 53, 32, 111, 100, 105, 101, 114, 101, 115, 105, 115, 61, 48, 48, 70, 54]⟩ : ByteArray)] from rfl) (Reps.none _ _)))))))))))))))))))))))))))))))); intro v110 w1 ho2 hb hg_ hnew_; clear hg_ hnew_; (first | rw [← Ny109.out] at ho2 | (simp only [Int.reduceToNat] at ho2; rw [← Ny109.out] at ho2)); have n0_ := Aside0.mk (Kd.R_lower ho2 (below_size (by repeat (first | (with_reducible first | exact HB.out | apply below_alloc | apply pw_below_drewN | apply below_drew1) | exact HB.out)))); have n1_ := Aside0.mk (below_step (by repeat (first | (with_reducible first | exact HB.out | apply below_alloc | apply pw_below_drewN | apply below_drew1) | exact HB.out)) hb); clear HB; have HO111 := n0_; have HB := n1_; clear n0_ n1_; clear hb ho2))
  go_ret
  exact ⟨_, by first | rfl | (simp [errW_none, errW_some] <;> rfl) | (simp [*, errW_none, errW_some] <;> rfl), by (with_reducible repeat (first | apply Kd.R_alloc | apply Kd.R_drewN | apply Kd.R_drew)); exact HO111.out, by repeat (first | (with_reducible first | exact HB.out | apply below_alloc | apply pw_below_drewN | apply below_drew1) | exact HB.out)⟩
end Go.Proofs.YtniehnkiicliaaaDoor.M
end
section
/- Laid by this session's program hbprint.py out of the translation: the function hornbook/glyph.part2 and its contract. -/
namespace Go.Proofs.YtniehnkiicliaaaDoor.M
open Go.RowKit Go.Proofs.YtniehnkiicliaaaDoorW.PrintWords Go.Proofs.YtniehnkiicliaaaDoorW.PrintLast Go.Proofs.YtniehnkiicliaaaDoorW.PrintMore
attribute [local go_sem] max2_int min2_int max_two min_two max_three min_three max_four min_four
set_option linter.unusedVariables false
set_option linter.unusedSimpArgs false
def glyph_part2.f  : Option (List ByteArray) := some (([(⟨#[100, 105, 118, 105, 100, 101, 61, 48, 48, 70, 55, 32, 111, 115, 108, 97, 115, 104, 61, 48, 48, 70, 56, 32, 117, 103, 114, 97, 118, 101, 61, 48, 48, 70, 57, 32, 117, 97, 99, 117, 116, 101, 61, 48, 48, 70, 65, 32, 117, 99, 105, 114, 99, 117, 109, 102, 108, 101, 120, 61, 48, 48, 70, 66, 32, 117, 100, 105, 101, 114, 101, 115, 105, 115, 61, 48, 48, 70, 67]⟩ : ByteArray), (⟨#[121, 97, 99, 117, 116, 101, 61, 48, 48, 70, 68, 32, 116, 104, 111, 114, 110, 61, 48, 48, 70, 69, 32, 121, 100, 105, 101, 114, 101, 115, 105, 115, 61, 48, 48, 70, 70, 32, 69, 117, 114, 111, 61, 50, 48, 65, 67, 32, 113, 117, 111, 116, 101, 115, 105, 110, 103, 108, 98, 97, 115, 101, 61, 50, 48, 49, 65, 32, 102, 108, 111, 114, 105, 110, 61, 48, 49, 57, 50]⟩ : ByteArray), (⟨#[113, 117, 111, 116, 101, 100, 98, 108, 98, 97, 115, 101, 61, 50, 48, 49, 69, 32, 101, 108, 108, 105, 112, 115, 105, 115, 61, 50, 48, 50, 54, 32, 100, 97, 103, 103, 101, 114, 61, 50, 48, 50, 48, 32, 100, 97, 103, 103, 101, 114, 100, 98, 108, 61, 50, 48, 50, 49, 32, 99, 105, 114, 99, 117, 109, 102, 108, 101, 120, 61, 48, 50, 67, 54, 32, 112, 101, 114, 116, 104, 111, 117, 115, 97, 110, 100, 61, 50, 48, 51, 48]⟩ : ByteArray), (⟨#[83, 99, 97, 114, 111, 110, 61, 48, 49, 54, 48, 32, 103, 117, 105, 108, 115, 105, 110, 103, 108, 108, 101, 102, 116, 61, 50, 48, 51, 57, 32, 79, 69, 61, 48, 49, 53, 50, 32, 90, 99, 97, 114, 111, 110, 61, 48, 49, 55, 68, 32, 113, 117, 111, 116, 101, 108, 101, 102, 116, 61, 50, 48, 49, 56, 32, 113, 117, 111, 116, 101, 114, 105, 103, 104, 116, 61, 50, 48, 49, 57]⟩ : ByteArray), (⟨#[113, 117, 111, 116, 101, 100, 98, 108, 108, 101, 102, 116, 61, 50, 48, 49, 67, 32, 113, 117, 111, 116, 101, 100, 98, 108, 114, 105, 103, 104, 116, 61, 50, 48, 49, 68, 32, 98, 117, 108, 108, 101, 116, 61, 50, 48, 50, 50, 32, 101, 110, 100, 97, 115, 104, 61, 50, 48, 49, 51, 32, 101, 109, 100, 97, 115, 104, 61, 50, 48, 49, 52, 32, 116, 105, 108, 100, 101, 61, 48, 50, 68, 67]⟩ : ByteArray), (⟨#[116, 114, 97, 100, 101, 109, 97, 114, 107, 61, 50, 49, 50, 50, 32, 115, 99, 97, 114, 111, 110, 61, 48, 49, 54, 49, 32, 103, 117, 105, 108, 115, 105, 110, 103, 108, 114, 105, 103, 104, 116, 61, 50, 48, 51, 65, 32, 111, 101, 61, 48, 49, 53, 51, 32, 122, 99, 97, 114, 111, 110, 61, 48, 49, 55, 69, 32, 89, 100, 105, 101, 114, 101, 115, 105, 115, 61, 48, 49, 55, 56]⟩ : ByteArray), (⟨#[102, 105, 61, 70, 66, 48, 49, 32, 102, 108, 61, 70, 66, 48, 50, 32, 102, 114, 97, 99, 116, 105, 111, 110, 61, 50, 48, 52, 52, 32, 100, 111, 116, 108, 101, 115, 115, 105, 61, 48, 49, 51, 49, 32, 76, 115, 108, 97, 115, 104, 61, 48, 49, 52, 49, 32, 108, 115, 108, 97, 115, 104, 61, 48, 49, 52, 50]⟩ : ByteArray), (⟨#[98, 114, 101, 118, 101, 61, 48, 50, 68, 56, 32, 99, 97, 114, 111, 110, 61, 48, 50, 67, 55, 32, 100, 111, 116, 97, 99, 99, 101, 110, 116, 61, 48, 50, 68, 57, 32, 104, 117, 110, 103, 97, 114, 117, 109, 108, 97, 117, 116, 61, 48, 50, 68, 68, 32, 111, 103, 111, 110, 101, 107, 61, 48, 50, 68, 66, 32, 114, 105, 110, 103, 61, 48, 50, 68, 65]⟩ : ByteArray), (⟨#[109, 105, 110, 117, 115, 61, 50, 50, 49, 50, 32, 110, 111, 116, 101, 113, 117, 97, 108, 61, 50, 50, 54, 48, 32, 105, 110, 102, 105, 110, 105, 116, 121, 61, 50, 50, 49, 69, 32, 108, 101, 115, 115, 101, 113, 117, 97, 108, 61, 50, 50, 54, 52, 32, 103, 114, 101, 97, 116, 101, 114, 101, 113, 117, 97, 108, 61, 50, 50, 54, 53, 32, 112, 97, 114, 116, 105, 97, 108, 100, 105, 102, 102, 61, 50, 50, 48, 50]⟩ : ByteArray), (⟨#[115, 117, 109, 109, 97, 116, 105, 111, 110, 61, 50, 50, 49, 49, 32, 112, 114, 111, 100, 117, 99, 116, 61, 50, 50, 48, 70, 32, 112, 105, 61, 48, 51, 67, 48, 32, 105, 110, 116, 101, 103, 114, 97, 108, 61, 50, 50, 50, 66, 32, 79, 109, 101, 103, 97, 61, 50, 49, 50, 54, 32, 114, 97, 100, 105, 99, 97, 108, 61, 50, 50, 49, 65]⟩ : ByteArray), (⟨#[97, 112, 112, 114, 111, 120, 101, 113, 117, 97, 108, 61, 50, 50, 52, 56, 32, 68, 101, 108, 116, 97, 61, 50, 50, 48, 54, 32, 108, 111, 122, 101, 110, 103, 101, 61, 50, 53, 67, 65, 32, 97, 112, 112, 108, 101, 61, 70, 56, 70, 70, 32, 65, 108, 112, 104, 97, 61, 48, 51, 57, 49, 32, 66, 101, 116, 97, 61, 48, 51, 57, 50]⟩ : ByteArray), (⟨#[71, 97, 109, 109, 97, 61, 48, 51, 57, 51, 32, 69, 112, 115, 105, 108, 111, 110, 61, 48, 51, 57, 53, 32, 90, 101, 116, 97, 61, 48, 51, 57, 54, 32, 69, 116, 97, 61, 48, 51, 57, 55, 32, 84, 104, 101, 116, 97, 61, 48, 51, 57, 56, 32, 73, 111, 116, 97, 61, 48, 51, 57, 57]⟩ : ByteArray), (⟨#[75, 97, 112, 112, 97, 61, 48, 51, 57, 65, 32, 76, 97, 109, 98, 100, 97, 61, 48, 51, 57, 66, 32, 77, 117, 61, 48, 51, 57, 67, 32, 78, 117, 61, 48, 51, 57, 68, 32, 88, 105, 61, 48, 51, 57, 69, 32, 79, 109, 105, 99, 114, 111, 110, 61, 48, 51, 57, 70]⟩ : ByteArray), (⟨#[80, 105, 61, 48, 51, 65, 48, 32, 82, 104, 111, 61, 48, 51, 65, 49, 32, 83, 105, 103, 109, 97, 61, 48, 51, 65, 51, 32, 84, 97, 117, 61, 48, 51, 65, 52, 32, 85, 112, 115, 105, 108, 111, 110, 61, 48, 51, 65, 53, 32, 80, 104, 105, 61, 48, 51, 65, 54]⟩ : ByteArray), (⟨#[67, 104, 105, 61, 48, 51, 65, 55, 32, 80, 115, 105, 61, 48, 51, 65, 56, 32, 97, 108, 112, 104, 97, 61, 48, 51, 66, 49, 32, 98, 101, 116, 97, 61, 48, 51, 66, 50, 32, 103, 97, 109, 109, 97, 61, 48, 51, 66, 51, 32, 100, 101, 108, 116, 97, 61, 48, 51, 66, 52]⟩ : ByteArray), (⟨#[101, 112, 115, 105, 108, 111, 110, 61, 48, 51, 66, 53, 32, 122, 101, 116, 97, 61, 48, 51, 66, 54, 32, 101, 116, 97, 61, 48, 51, 66, 55, 32, 116, 104, 101, 116, 97, 61, 48, 51, 66, 56, 32, 105, 111, 116, 97, 61, 48, 51, 66, 57, 32, 107, 97, 112, 112, 97, 61, 48, 51, 66, 65]⟩ : ByteArray), (⟨#[108, 97, 109, 98, 100, 97, 61, 48, 51, 66, 66, 32, 110, 117, 61, 48, 51, 66, 68, 32, 120, 105, 61, 48, 51, 66, 69, 32, 111, 109, 105, 99, 114, 111, 110, 61, 48, 51, 66, 70, 32, 114, 104, 111, 61, 48, 51, 67, 49, 32, 115, 105, 103, 109, 97, 49, 61, 48, 51, 67, 50]⟩ : ByteArray), (⟨#[115, 105, 103, 109, 97, 61, 48, 51, 67, 51, 32, 116, 97, 117, 61, 48, 51, 67, 52, 32, 117, 112, 115, 105, 108, 111, 110, 61, 48, 51, 67, 53, 32, 112, 104, 105, 61, 48, 51, 67, 54, 32, 99, 104, 105, 61, 48, 51, 67, 55, 32, 112, 115, 105, 61, 48, 51, 67, 56]⟩ : ByteArray), (⟨#[111, 109, 101, 103, 97, 61, 48, 51, 67, 57, 32, 116, 104, 101, 116, 97, 49, 61, 48, 51, 68, 49, 32, 85, 112, 115, 105, 108, 111, 110, 49, 61, 48, 51, 68, 50, 32, 112, 104, 105, 49, 61, 48, 51, 68, 53, 32, 111, 109, 101, 103, 97, 49, 61, 48, 51, 68, 54, 32, 117, 110, 105, 118, 101, 114, 115, 97, 108, 61, 50, 50, 48, 48]⟩ : ByteArray), (⟨#[101, 120, 105, 115, 116, 101, 110, 116, 105, 97, 108, 61, 50, 50, 48, 51, 32, 115, 117, 99, 104, 116, 104, 97, 116, 61, 50, 50, 48, 66, 32, 97, 115, 116, 101, 114, 105, 115, 107, 109, 97, 116, 104, 61, 50, 50, 49, 55, 32, 99, 111, 110, 103, 114, 117, 101, 110, 116, 61, 50, 50, 52, 53, 32, 116, 104, 101, 114, 101, 102, 111, 114, 101, 61, 50, 50, 51, 52, 32, 112, 101, 114, 112, 101, 110, 100, 105, 99, 117, 108, 97, 114, 61, 50, 50, 65, 53]⟩ : ByteArray), (⟨#[115, 105, 109, 105, 108, 97, 114, 61, 50, 50, 51, 67, 32, 109, 105, 110, 117, 116, 101, 61, 50, 48, 51, 50, 32, 99, 108, 117, 98, 61, 50, 54, 54, 51, 32, 100, 105, 97, 109, 111, 110, 100, 61, 50, 54, 54, 54, 32, 104, 101, 97, 114, 116, 61, 50, 54, 54, 53, 32, 115, 112, 97, 100, 101, 61, 50, 54, 54, 48]⟩ : ByteArray), (⟨#[97, 114, 114, 111, 119, 98, 111, 116, 104, 61, 50, 49, 57, 52, 32, 97, 114, 114, 111, 119, 108, 101, 102, 116, 61, 50, 49, 57, 48, 32, 97, 114, 114, 111, 119, 117, 112, 61, 50, 49, 57, 49, 32, 97, 114, 114, 111, 119, 114, 105, 103, 104, 116, 61, 50, 49, 57, 50, 32, 97, 114, 114, 111, 119, 100, 111, 119, 110, 61, 50, 49, 57, 51, 32, 115, 101, 99, 111, 110, 100, 61, 50, 48, 51, 51]⟩ : ByteArray), (⟨#[112, 114, 111, 112, 111, 114, 116, 105, 111, 110, 97, 108, 61, 50, 50, 49, 68, 32, 101, 113, 117, 105, 118, 97, 108, 101, 110, 99, 101, 61, 50, 50, 54, 49, 32, 97, 108, 101, 112, 104, 61, 50, 49, 51, 53, 32, 73, 102, 114, 97, 107, 116, 117, 114, 61, 50, 49, 49, 49, 32, 82, 102, 114, 97, 107, 116, 117, 114, 61, 50, 49, 49, 67, 32, 119, 101, 105, 101, 114, 115, 116, 114, 97, 115, 115, 61, 50, 49, 49, 56]⟩ : ByteArray), (⟨#[99, 105, 114, 99, 108, 101, 109, 117, 108, 116, 105, 112, 108, 121, 61, 50, 50, 57, 55, 32, 99, 105, 114, 99, 108, 101, 112, 108, 117, 115, 61, 50, 50, 57, 53, 32, 101, 109, 112, 116, 121, 115, 101, 116, 61, 50, 50, 48, 53, 32, 105, 110, 116, 101, 114, 115, 101, 99, 116, 105, 111, 110, 61, 50, 50, 50, 57, 32, 117, 110, 105, 111, 110, 61, 50, 50, 50, 65, 32, 112, 114, 111, 112, 101, 114, 115, 117, 112, 101, 114, 115, 101, 116, 61, 50, 50, 56, 51]⟩ : ByteArray), (⟨#[114, 101, 102, 108, 101, 120, 115, 117, 112, 101, 114, 115, 101, 116, 61, 50, 50, 56, 55, 32, 110, 111, 116, 115, 117, 98, 115, 101, 116, 61, 50, 50, 56, 52, 32, 112, 114, 111, 112, 101, 114, 115, 117, 98, 115, 101, 116, 61, 50, 50, 56, 50, 32, 114, 101, 102, 108, 101, 120, 115, 117, 98, 115, 101, 116, 61, 50, 50, 56, 54, 32, 101, 108, 101, 109, 101, 110, 116, 61, 50, 50, 48, 56, 32, 110, 111, 116, 101, 108, 101, 109, 101, 110, 116, 61, 50, 50, 48, 57]⟩ : ByteArray), (⟨#[97, 110, 103, 108, 101, 61, 50, 50, 50, 48, 32, 103, 114, 97, 100, 105, 101, 110, 116, 61, 50, 50, 48, 55, 32, 100, 111, 116, 109, 97, 116, 104, 61, 50, 50, 67, 53, 32, 108, 111, 103, 105, 99, 97, 108, 97, 110, 100, 61, 50, 50, 50, 55, 32, 108, 111, 103, 105, 99, 97, 108, 111, 114, 61, 50, 50, 50, 56, 32, 97, 114, 114, 111, 119, 100, 98, 108, 98, 111, 116, 104, 61, 50, 49, 68, 52]⟩ : ByteArray), (⟨#[97, 114, 114, 111, 119, 100, 98, 108, 108, 101, 102, 116, 61, 50, 49, 68, 48, 32, 97, 114, 114, 111, 119, 100, 98, 108, 117, 112, 61, 50, 49, 68, 49, 32, 97, 114, 114, 111, 119, 100, 98, 108, 114, 105, 103, 104, 116, 61, 50, 49, 68, 50, 32, 97, 114, 114, 111, 119, 100, 98, 108, 100, 111, 119, 110, 61, 50, 49, 68, 51, 32, 97, 110, 103, 108, 101, 108, 101, 102, 116, 61, 50, 51, 50, 57, 32, 97, 110, 103, 108, 101, 114, 105, 103, 104, 116, 61, 50, 51, 50, 65]⟩ : ByteArray), (⟨#[100, 97, 108, 101, 116, 104, 97, 116, 97, 102, 112, 97, 116, 97, 104, 61, 48, 53, 68, 51, 44, 48, 53, 66, 50, 32, 102, 102, 61, 70, 66, 48, 48, 32, 102, 102, 105, 61, 70, 66, 48, 51, 32, 102, 102, 108, 61, 70, 66, 48, 52, 32, 65, 109, 97, 99, 114, 111, 110, 61, 48, 49, 48, 48, 32, 97, 109, 97, 99, 114, 111, 110, 61, 48, 49, 48, 49]⟩ : ByteArray), (⟨#[65, 98, 114, 101, 118, 101, 61, 48, 49, 48, 50, 32, 97, 98, 114, 101, 118, 101, 61, 48, 49, 48, 51, 32, 76, 99, 111, 109, 109, 97, 97, 99, 99, 101, 110, 116, 61, 48, 49, 51, 66]⟩ : ByteArray)] : List ByteArray))
set_option maxHeartbeats 8000000 in
set_option maxRecDepth 100000 in
theorem glyph_part2.calls  (r : List ByteArray) (w : World) (h : glyph_part2.f  = some r) :
    Calls Tryd.prog 59 #[] w fun e w' => ∃ v0_ : Value, e = .returned (v0_) ∧ Kd.R Kd.string 9 w' w.heap.size (fun _ => True) v0_ r ∧ Below w.heap.size w w' := by
  have HB := Aside0.mk (Below.refl w.heap.size w)
  have H : (some (([(⟨#[100, 105, 118, 105, 100, 101, 61, 48, 48, 70, 55, 32, 111, 115, 108, 97, 115, 104, 61, 48, 48, 70, 56, 32, 117, 103, 114, 97, 118, 101, 61, 48, 48, 70, 57, 32, 117, 97, 99, 117, 116, 101, 61, 48, 48, 70, 65, 32, 117, 99, 105, 114, 99, 117, 109, 102, 108, 101, 120, 61, 48, 48, 70, 66, 32, 117, 100, 105, 101, 114, 101, 115, 105, 115, 61, 48, 48, 70, 67]⟩ : ByteArray), (⟨#[121, 97, 99, 117, 116, 101, 61, 48, 48, 70, 68, 32, 116, 104, 111, 114, 110, 61, 48, 48, 70, 69, 32, 121, 100, 105, 101, 114, 101, 115, 105, 115, 61, 48, 48, 70, 70, 32, 69, 117, 114, 111, 61, 50, 48, 65, 67, 32, 113, 117, 111, 116, 101, 115, 105, 110, 103, 108, 98, 97, 115, 101, 61, 50, 48, 49, 65, 32, 102, 108, 111, 114, 105, 110, 61, 48, 49, 57, 50]⟩ : ByteArray), (⟨#[113, 117, 111, 116, 101, 100, 98, 108, 98, 97, 115, 101, 61, 50, 48, 49, 69, 32, 101, 108, 108, 105, 112, 115, 105, 115, 61, 50, 48, 50, 54, 32, 100, 97, 103, 103, 101, 114, 61, 50, 48, 50, 48, 32, 100, 97, 103, 103, 101, 114, 100, 98, 108, 61, 50, 48, 50, 49, 32, 99, 105, 114, 99, 117, 109, 102, 108, 101, 120, 61, 48, 50, 67, 54, 32, 112, 101, 114, 116, 104, 111, 117, 115, 97, 110, 100, 61, 50, 48, 51, 48]⟩ : ByteArray), (⟨#[83, 99, 97, 114, 111, 110, 61, 48, 49, 54, 48, 32, 103, 117, 105, 108, 115, 105, 110, 103, 108, 108, 101, 102, 116, 61, 50, 48, 51, 57, 32, 79, 69, 61, 48, 49, 53, 50, 32, 90, 99, 97, 114, 111, 110, 61, 48, 49, 55, 68, 32, 113, 117, 111, 116, 101, 108, 101, 102, 116, 61, 50, 48, 49, 56, 32, 113, 117, 111, 116, 101, 114, 105, 103, 104, 116, 61, 50, 48, 49, 57]⟩ : ByteArray), (⟨#[113, 117, 111, 116, 101, 100, 98, 108, 108, 101, 102, 116, 61, 50, 48, 49, 67, 32, 113, 117, 111, 116, 101, 100, 98, 108, 114, 105, 103, 104, 116, 61, 50, 48, 49, 68, 32, 98, 117, 108, 108, 101, 116, 61, 50, 48, 50, 50, 32, 101, 110, 100, 97, 115, 104, 61, 50, 48, 49, 51, 32, 101, 109, 100, 97, 115, 104, 61, 50, 48, 49, 52, 32, 116, 105, 108, 100, 101, 61, 48, 50, 68, 67]⟩ : ByteArray), (⟨#[116, 114, 97, 100, 101, 109, 97, 114, 107, 61, 50, 49, 50, 50, 32, 115, 99, 97, 114, 111, 110, 61, 48, 49, 54, 49, 32, 103, 117, 105, 108, 115, 105, 110, 103, 108, 114, 105, 103, 104, 116, 61, 50, 48, 51, 65, 32, 111, 101, 61, 48, 49, 53, 51, 32, 122, 99, 97, 114, 111, 110, 61, 48, 49, 55, 69, 32, 89, 100, 105, 101, 114, 101, 115, 105, 115, 61, 48, 49, 55, 56]⟩ : ByteArray), (⟨#[102, 105, 61, 70, 66, 48, 49, 32, 102, 108, 61, 70, 66, 48, 50, 32, 102, 114, 97, 99, 116, 105, 111, 110, 61, 50, 48, 52, 52, 32, 100, 111, 116, 108, 101, 115, 115, 105, 61, 48, 49, 51, 49, 32, 76, 115, 108, 97, 115, 104, 61, 48, 49, 52, 49, 32, 108, 115, 108, 97, 115, 104, 61, 48, 49, 52, 50]⟩ : ByteArray), (⟨#[98, 114, 101, 118, 101, 61, 48, 50, 68, 56, 32, 99, 97, 114, 111, 110, 61, 48, 50, 67, 55, 32, 100, 111, 116, 97, 99, 99, 101, 110, 116, 61, 48, 50, 68, 57, 32, 104, 117, 110, 103, 97, 114, 117, 109, 108, 97, 117, 116, 61, 48, 50, 68, 68, 32, 111, 103, 111, 110, 101, 107, 61, 48, 50, 68, 66, 32, 114, 105, 110, 103, 61, 48, 50, 68, 65]⟩ : ByteArray), (⟨#[109, 105, 110, 117, 115, 61, 50, 50, 49, 50, 32, 110, 111, 116, 101, 113, 117, 97, 108, 61, 50, 50, 54, 48, 32, 105, 110, 102, 105, 110, 105, 116, 121, 61, 50, 50, 49, 69, 32, 108, 101, 115, 115, 101, 113, 117, 97, 108, 61, 50, 50, 54, 52, 32, 103, 114, 101, 97, 116, 101, 114, 101, 113, 117, 97, 108, 61, 50, 50, 54, 53, 32, 112, 97, 114, 116, 105, 97, 108, 100, 105, 102, 102, 61, 50, 50, 48, 50]⟩ : ByteArray), (⟨#[115, 117, 109, 109, 97, 116, 105, 111, 110, 61, 50, 50, 49, 49, 32, 112, 114, 111, 100, 117, 99, 116, 61, 50, 50, 48, 70, 32, 112, 105, 61, 48, 51, 67, 48, 32, 105, 110, 116, 101, 103, 114, 97, 108, 61, 50, 50, 50, 66, 32, 79, 109, 101, 103, 97, 61, 50, 49, 50, 54, 32, 114, 97, 100, 105, 99, 97, 108, 61, 50, 50, 49, 65]⟩ : ByteArray), (⟨#[97, 112, 112, 114, 111, 120, 101, 113, 117, 97, 108, 61, 50, 50, 52, 56, 32, 68, 101, 108, 116, 97, 61, 50, 50, 48, 54, 32, 108, 111, 122, 101, 110, 103, 101, 61, 50, 53, 67, 65, 32, 97, 112, 112, 108, 101, 61, 70, 56, 70, 70, 32, 65, 108, 112, 104, 97, 61, 48, 51, 57, 49, 32, 66, 101, 116, 97, 61, 48, 51, 57, 50]⟩ : ByteArray), (⟨#[71, 97, 109, 109, 97, 61, 48, 51, 57, 51, 32, 69, 112, 115, 105, 108, 111, 110, 61, 48, 51, 57, 53, 32, 90, 101, 116, 97, 61, 48, 51, 57, 54, 32, 69, 116, 97, 61, 48, 51, 57, 55, 32, 84, 104, 101, 116, 97, 61, 48, 51, 57, 56, 32, 73, 111, 116, 97, 61, 48, 51, 57, 57]⟩ : ByteArray), (⟨#[75, 97, 112, 112, 97, 61, 48, 51, 57, 65, 32, 76, 97, 109, 98, 100, 97, 61, 48, 51, 57, 66, 32, 77, 117, 61, 48, 51, 57, 67, 32, 78, 117, 61, 48, 51, 57, 68, 32, 88, 105, 61, 48, 51, 57, 69, 32, 79, 109, 105, 99, 114, 111, 110, 61, 48, 51, 57, 70]⟩ : ByteArray), (⟨#[80, 105, 61, 48, 51, 65, 48, 32, 82, 104, 111, 61, 48, 51, 65, 49, 32, 83, 105, 103, 109, 97, 61, 48, 51, 65, 51, 32, 84, 97, 117, 61, 48, 51, 65, 52, 32, 85, 112, 115, 105, 108, 111, 110, 61, 48, 51, 65, 53, 32, 80, 104, 105, 61, 48, 51, 65, 54]⟩ : ByteArray), (⟨#[67, 104, 105, 61, 48, 51, 65, 55, 32, 80, 115, 105, 61, 48, 51, 65, 56, 32, 97, 108, 112, 104, 97, 61, 48, 51, 66, 49, 32, 98, 101, 116, 97, 61, 48, 51, 66, 50, 32, 103, 97, 109, 109, 97, 61, 48, 51, 66, 51, 32, 100, 101, 108, 116, 97, 61, 48, 51, 66, 52]⟩ : ByteArray), (⟨#[101, 112, 115, 105, 108, 111, 110, 61, 48, 51, 66, 53, 32, 122, 101, 116, 97, 61, 48, 51, 66, 54, 32, 101, 116, 97, 61, 48, 51, 66, 55, 32, 116, 104, 101, 116, 97, 61, 48, 51, 66, 56, 32, 105, 111, 116, 97, 61, 48, 51, 66, 57, 32, 107, 97, 112, 112, 97, 61, 48, 51, 66, 65]⟩ : ByteArray), (⟨#[108, 97, 109, 98, 100, 97, 61, 48, 51, 66, 66, 32, 110, 117, 61, 48, 51, 66, 68, 32, 120, 105, 61, 48, 51, 66, 69, 32, 111, 109, 105, 99, 114, 111, 110, 61, 48, 51, 66, 70, 32, 114, 104, 111, 61, 48, 51, 67, 49, 32, 115, 105, 103, 109, 97, 49, 61, 48, 51, 67, 50]⟩ : ByteArray), (⟨#[115, 105, 103, 109, 97, 61, 48, 51, 67, 51, 32, 116, 97, 117, 61, 48, 51, 67, 52, 32, 117, 112, 115, 105, 108, 111, 110, 61, 48, 51, 67, 53, 32, 112, 104, 105, 61, 48, 51, 67, 54, 32, 99, 104, 105, 61, 48, 51, 67, 55, 32, 112, 115, 105, 61, 48, 51, 67, 56]⟩ : ByteArray), (⟨#[111, 109, 101, 103, 97, 61, 48, 51, 67, 57, 32, 116, 104, 101, 116, 97, 49, 61, 48, 51, 68, 49, 32, 85, 112, 115, 105, 108, 111, 110, 49, 61, 48, 51, 68, 50, 32, 112, 104, 105, 49, 61, 48, 51, 68, 53, 32, 111, 109, 101, 103, 97, 49, 61, 48, 51, 68, 54, 32, 117, 110, 105, 118, 101, 114, 115, 97, 108, 61, 50, 50, 48, 48]⟩ : ByteArray), (⟨#[101, 120, 105, 115, 116, 101, 110, 116, 105, 97, 108, 61, 50, 50, 48, 51, 32, 115, 117, 99, 104, 116, 104, 97, 116, 61, 50, 50, 48, 66, 32, 97, 115, 116, 101, 114, 105, 115, 107, 109, 97, 116, 104, 61, 50, 50, 49, 55, 32, 99, 111, 110, 103, 114, 117, 101, 110, 116, 61, 50, 50, 52, 53, 32, 116, 104, 101, 114, 101, 102, 111, 114, 101, 61, 50, 50, 51, 52, 32, 112, 101, 114, 112, 101, 110, 100, 105, 99, 117, 108, 97, 114, 61, 50, 50, 65, 53]⟩ : ByteArray), (⟨#[115, 105, 109, 105, 108, 97, 114, 61, 50, 50, 51, 67, 32, 109, 105, 110, 117, 116, 101, 61, 50, 48, 51, 50, 32, 99, 108, 117, 98, 61, 50, 54, 54, 51, 32, 100, 105, 97, 109, 111, 110, 100, 61, 50, 54, 54, 54, 32, 104, 101, 97, 114, 116, 61, 50, 54, 54, 53, 32, 115, 112, 97, 100, 101, 61, 50, 54, 54, 48]⟩ : ByteArray), (⟨#[97, 114, 114, 111, 119, 98, 111, 116, 104, 61, 50, 49, 57, 52, 32, 97, 114, 114, 111, 119, 108, 101, 102, 116, 61, 50, 49, 57, 48, 32, 97, 114, 114, 111, 119, 117, 112, 61, 50, 49, 57, 49, 32, 97, 114, 114, 111, 119, 114, 105, 103, 104, 116, 61, 50, 49, 57, 50, 32, 97, 114, 114, 111, 119, 100, 111, 119, 110, 61, 50, 49, 57, 51, 32, 115, 101, 99, 111, 110, 100, 61, 50, 48, 51, 51]⟩ : ByteArray), (⟨#[112, 114, 111, 112, 111, 114, 116, 105, 111, 110, 97, 108, 61, 50, 50, 49, 68, 32, 101, 113, 117, 105, 118, 97, 108, 101, 110, 99, 101, 61, 50, 50, 54, 49, 32, 97, 108, 101, 112, 104, 61, 50, 49, 51, 53, 32, 73, 102, 114, 97, 107, 116, 117, 114, 61, 50, 49, 49, 49, 32, 82, 102, 114, 97, 107, 116, 117, 114, 61, 50, 49, 49, 67, 32, 119, 101, 105, 101, 114, 115, 116, 114, 97, 115, 115, 61, 50, 49, 49, 56]⟩ : ByteArray), (⟨#[99, 105, 114, 99, 108, 101, 109, 117, 108, 116, 105, 112, 108, 121, 61, 50, 50, 57, 55, 32, 99, 105, 114, 99, 108, 101, 112, 108, 117, 115, 61, 50, 50, 57, 53, 32, 101, 109, 112, 116, 121, 115, 101, 116, 61, 50, 50, 48, 53, 32, 105, 110, 116, 101, 114, 115, 101, 99, 116, 105, 111, 110, 61, 50, 50, 50, 57, 32, 117, 110, 105, 111, 110, 61, 50, 50, 50, 65, 32, 112, 114, 111, 112, 101, 114, 115, 117, 112, 101, 114, 115, 101, 116, 61, 50, 50, 56, 51]⟩ : ByteArray), (⟨#[114, 101, 102, 108, 101, 120, 115, 117, 112, 101, 114, 115, 101, 116, 61, 50, 50, 56, 55, 32, 110, 111, 116, 115, 117, 98, 115, 101, 116, 61, 50, 50, 56, 52, 32, 112, 114, 111, 112, 101, 114, 115, 117, 98, 115, 101, 116, 61, 50, 50, 56, 50, 32, 114, 101, 102, 108, 101, 120, 115, 117, 98, 115, 101, 116, 61, 50, 50, 56, 54, 32, 101, 108, 101, 109, 101, 110, 116, 61, 50, 50, 48, 56, 32, 110, 111, 116, 101, 108, 101, 109, 101, 110, 116, 61, 50, 50, 48, 57]⟩ : ByteArray), (⟨#[97, 110, 103, 108, 101, 61, 50, 50, 50, 48, 32, 103, 114, 97, 100, 105, 101, 110, 116, 61, 50, 50, 48, 55, 32, 100, 111, 116, 109, 97, 116, 104, 61, 50, 50, 67, 53, 32, 108, 111, 103, 105, 99, 97, 108, 97, 110, 100, 61, 50, 50, 50, 55, 32, 108, 111, 103, 105, 99, 97, 108, 111, 114, 61, 50, 50, 50, 56, 32, 97, 114, 114, 111, 119, 100, 98, 108, 98, 111, 116, 104, 61, 50, 49, 68, 52]⟩ : ByteArray), (⟨#[97, 114, 114, 111, 119, 100, 98, 108, 108, 101, 102, 116, 61, 50, 49, 68, 48, 32, 97, 114, 114, 111, 119, 100, 98, 108, 117, 112, 61, 50, 49, 68, 49, 32, 97, 114, 114, 111, 119, 100, 98, 108, 114, 105, 103, 104, 116, 61, 50, 49, 68, 50, 32, 97, 114, 114, 111, 119, 100, 98, 108, 100, 111, 119, 110, 61, 50, 49, 68, 51, 32, 97, 110, 103, 108, 101, 108, 101, 102, 116, 61, 50, 51, 50, 57, 32, 97, 110, 103, 108, 101, 114, 105, 103, 104, 116, 61, 50, 51, 50, 65]⟩ : ByteArray), (⟨#[100, 97, 108, 101, 116, 104, 97, 116, 97, 102, 112, 97, 116, 97, 104, 61, 48, 53, 68, 51, 44, 48, 53, 66, 50, 32, 102, 102, 61, 70, 66, 48, 48, 32, 102, 102, 105, 61, 70, 66, 48, 51, 32, 102, 102, 108, 61, 70, 66, 48, 52, 32, 65, 109, 97, 99, 114, 111, 110, 61, 48, 49, 48, 48, 32, 97, 109, 97, 99, 114, 111, 110, 61, 48, 49, 48, 49]⟩ : ByteArray), (⟨#[65, 98, 114, 101, 118, 101, 61, 48, 49, 48, 50, 32, 97, 98, 114, 101, 118, 101, 61, 48, 49, 48, 51, 32, 76, 99, 111, 109, 109, 97, 97, 99, 99, 101, 110, 116, 61, 48, 49, 51, 66]⟩ : ByteArray)] : List ByteArray))) = some r := h
  clear h
  obtain ⟨y112, hy112⟩ : ∃ y_ : List ByteArray, y_ = (([(⟨#[100, 105, 118, 105, 100, 101, 61, 48, 48, 70, 55, 32, 111, 115, 108, 97, 115, 104, 61, 48, 48, 70, 56, 32, 117, 103, 114, 97, 118, 101, 61, 48, 48, 70, 57, 32, 117, 97, 99, 117, 116, 101, 61, 48, 48, 70, 65, 32, 117, 99, 105, 114, 99, 117, 109, 102, 108, 101, 120, 61, 48, 48, 70, 66, 32, 117, 100, 105, 101, 114, 101, 115, 105, 115, 61, 48, 48, 70, 67]⟩ : ByteArray), (⟨#[121, 97, 99, 117, 116, 101, 61, 48, 48, 70, 68, 32, 116, 104, 111, 114, 110, 61, 48, 48, 70, 69, 32, 121, 100, 105, 101, 114, 101, 115, 105, 115, 61, 48, 48, 70, 70, 32, 69, 117, 114, 111, 61, 50, 48, 65, 67, 32, 113, 117, 111, 116, 101, 115, 105, 110, 103, 108, 98, 97, 115, 101, 61, 50, 48, 49, 65, 32, 102, 108, 111, 114, 105, 110, 61, 48, 49, 57, 50]⟩ : ByteArray), (⟨#[113, 117, 111, 116, 101, 100, 98, 108, 98, 97, 115, 101, 61, 50, 48, 49, 69, 32, 101, 108, 108, 105, 112, 115, 105, 115, 61, 50, 48, 50, 54, 32, 100, 97, 103, 103, 101, 114, 61, 50, 48, 50, 48, 32, 100, 97, 103, 103, 101, 114, 100, 98, 108, 61, 50, 48, 50, 49, 32, 99, 105, 114, 99, 117, 109, 102, 108, 101, 120, 61, 48, 50, 67, 54, 32, 112, 101, 114, 116, 104, 111, 117, 115, 97, 110, 100, 61, 50, 48, 51, 48]⟩ : ByteArray), (⟨#[83, 99, 97, 114, 111, 110, 61, 48, 49, 54, 48, 32, 103, 117, 105, 108, 115, 105, 110, 103, 108, 108, 101, 102, 116, 61, 50, 48, 51, 57, 32, 79, 69, 61, 48, 49, 53, 50, 32, 90, 99, 97, 114, 111, 110, 61, 48, 49, 55, 68, 32, 113, 117, 111, 116, 101, 108, 101, 102, 116, 61, 50, 48, 49, 56, 32, 113, 117, 111, 116, 101, 114, 105, 103, 104, 116, 61, 50, 48, 49, 57]⟩ : ByteArray), (⟨#[113, 117, 111, 116, 101, 100, 98, 108, 108, 101, 102, 116, 61, 50, 48, 49, 67, 32, 113, 117, 111, 116, 101, 100, 98, 108, 114, 105, 103, 104, 116, 61, 50, 48, 49, 68, 32, 98, 117, 108, 108, 101, 116, 61, 50, 48, 50, 50, 32, 101, 110, 100, 97, 115, 104, 61, 50, 48, 49, 51, 32, 101, 109, 100, 97, 115, 104, 61, 50, 48, 49, 52, 32, 116, 105, 108, 100, 101, 61, 48, 50, 68, 67]⟩ : ByteArray), (⟨#[116, 114, 97, 100, 101, 109, 97, 114, 107, 61, 50, 49, 50, 50, 32, 115, 99, 97, 114, 111, 110, 61, 48, 49, 54, 49, 32, 103, 117, 105, 108, 115, 105, 110, 103, 108, 114, 105, 103, 104, 116, 61, 50, 48, 51, 65, 32, 111, 101, 61, 48, 49, 53, 51, 32, 122, 99, 97, 114, 111, 110, 61, 48, 49, 55, 69, 32, 89, 100, 105, 101, 114, 101, 115, 105, 115, 61, 48, 49, 55, 56]⟩ : ByteArray), (⟨#[102, 105, 61, 70, 66, 48, 49, 32, 102, 108, 61, 70, 66, 48, 50, 32, 102, 114, 97, 99, 116, 105, 111, 110, 61, 50, 48, 52, 52, 32, 100, 111, 116, 108, 101, 115, 115, 105, 61, 48, 49, 51, 49, 32, 76, 115, 108, 97, 115, 104, 61, 48, 49, 52, 49, 32, 108, 115, 108, 97, 115, 104, 61, 48, 49, 52, 50]⟩ : ByteArray), (⟨#[98, 114, 101, 118, 101, 61, 48, 50, 68, 56, 32, 99, 97, 114, 111, 110, 61, 48, 50, 67, 55, 32, 100, 111, 116, 97, 99, 99, 101, 110, 116, 61, 48, 50, 68, 57, 32, 104, 117, 110, 103, 97, 114, 117, 109, 108, 97, 117, 116, 61, 48, 50, 68, 68, 32, 111, 103, 111, 110, 101, 107, 61, 48, 50, 68, 66, 32, 114, 105, 110, 103, 61, 48, 50, 68, 65]⟩ : ByteArray), (⟨#[109, 105, 110, 117, 115, 61, 50, 50, 49, 50, 32, 110, 111, 116, 101, 113, 117, 97, 108, 61, 50, 50, 54, 48, 32, 105, 110, 102, 105, 110, 105, 116, 121, 61, 50, 50, 49, 69, 32, 108, 101, 115, 115, 101, 113, 117, 97, 108, 61, 50, 50, 54, 52, 32, 103, 114, 101, 97, 116, 101, 114, 101, 113, 117, 97, 108, 61, 50, 50, 54, 53, 32, 112, 97, 114, 116, 105, 97, 108, 100, 105, 102, 102, 61, 50, 50, 48, 50]⟩ : ByteArray), (⟨#[115, 117, 109, 109, 97, 116, 105, 111, 110, 61, 50, 50, 49, 49, 32, 112, 114, 111, 100, 117, 99, 116, 61, 50, 50, 48, 70, 32, 112, 105, 61, 48, 51, 67, 48, 32, 105, 110, 116, 101, 103, 114, 97, 108, 61, 50, 50, 50, 66, 32, 79, 109, 101, 103, 97, 61, 50, 49, 50, 54, 32, 114, 97, 100, 105, 99, 97, 108, 61, 50, 50, 49, 65]⟩ : ByteArray), (⟨#[97, 112, 112, 114, 111, 120, 101, 113, 117, 97, 108, 61, 50, 50, 52, 56, 32, 68, 101, 108, 116, 97, 61, 50, 50, 48, 54, 32, 108, 111, 122, 101, 110, 103, 101, 61, 50, 53, 67, 65, 32, 97, 112, 112, 108, 101, 61, 70, 56, 70, 70, 32, 65, 108, 112, 104, 97, 61, 48, 51, 57, 49, 32, 66, 101, 116, 97, 61, 48, 51, 57, 50]⟩ : ByteArray), (⟨#[71, 97, 109, 109, 97, 61, 48, 51, 57, 51, 32, 69, 112, 115, 105, 108, 111, 110, 61, 48, 51, 57, 53, 32, 90, 101, 116, 97, 61, 48, 51, 57, 54, 32, 69, 116, 97, 61, 48, 51, 57, 55, 32, 84, 104, 101, 116, 97, 61, 48, 51, 57, 56, 32, 73, 111, 116, 97, 61, 48, 51, 57, 57]⟩ : ByteArray), (⟨#[75, 97, 112, 112, 97, 61, 48, 51, 57, 65, 32, 76, 97, 109, 98, 100, 97, 61, 48, 51, 57, 66, 32, 77, 117, 61, 48, 51, 57, 67, 32, 78, 117, 61, 48, 51, 57, 68, 32, 88, 105, 61, 48, 51, 57, 69, 32, 79, 109, 105, 99, 114, 111, 110, 61, 48, 51, 57, 70]⟩ : ByteArray), (⟨#[80, 105, 61, 48, 51, 65, 48, 32, 82, 104, 111, 61, 48, 51, 65, 49, 32, 83, 105, 103, 109, 97, 61, 48, 51, 65, 51, 32, 84, 97, 117, 61, 48, 51, 65, 52, 32, 85, 112, 115, 105, 108, 111, 110, 61, 48, 51, 65, 53, 32, 80, 104, 105, 61, 48, 51, 65, 54]⟩ : ByteArray), (⟨#[67, 104, 105, 61, 48, 51, 65, 55, 32, 80, 115, 105, 61, 48, 51, 65, 56, 32, 97, 108, 112, 104, 97, 61, 48, 51, 66, 49, 32, 98, 101, 116, 97, 61, 48, 51, 66, 50, 32, 103, 97, 109, 109, 97, 61, 48, 51, 66, 51, 32, 100, 101, 108, 116, 97, 61, 48, 51, 66, 52]⟩ : ByteArray), (⟨#[101, 112, 115, 105, 108, 111, 110, 61, 48, 51, 66, 53, 32, 122, 101, 116, 97, 61, 48, 51, 66, 54, 32, 101, 116, 97, 61, 48, 51, 66, 55, 32, 116, 104, 101, 116, 97, 61, 48, 51, 66, 56, 32, 105, 111, 116, 97, 61, 48, 51, 66, 57, 32, 107, 97, 112, 112, 97, 61, 48, 51, 66, 65]⟩ : ByteArray), (⟨#[108, 97, 109, 98, 100, 97, 61, 48, 51, 66, 66, 32, 110, 117, 61, 48, 51, 66, 68, 32, 120, 105, 61, 48, 51, 66, 69, 32, 111, 109, 105, 99, 114, 111, 110, 61, 48, 51, 66, 70, 32, 114, 104, 111, 61, 48, 51, 67, 49, 32, 115, 105, 103, 109, 97, 49, 61, 48, 51, 67, 50]⟩ : ByteArray), (⟨#[115, 105, 103, 109, 97, 61, 48, 51, 67, 51, 32, 116, 97, 117, 61, 48, 51, 67, 52, 32, 117, 112, 115, 105, 108, 111, 110, 61, 48, 51, 67, 53, 32, 112, 104, 105, 61, 48, 51, 67, 54, 32, 99, 104, 105, 61, 48, 51, 67, 55, 32, 112, 115, 105, 61, 48, 51, 67, 56]⟩ : ByteArray), (⟨#[111, 109, 101, 103, 97, 61, 48, 51, 67, 57, 32, 116, 104, 101, 116, 97, 49, 61, 48, 51, 68, 49, 32, 85, 112, 115, 105, 108, 111, 110, 49, 61, 48, 51, 68, 50, 32, 112, 104, 105, 49, 61, 48, 51, 68, 53, 32, 111, 109, 101, 103, 97, 49, 61, 48, 51, 68, 54, 32, 117, 110, 105, 118, 101, 114, 115, 97, 108, 61, 50, 50, 48, 48]⟩ : ByteArray), (⟨#[101, 120, 105, 115, 116, 101, 110, 116, 105, 97, 108, 61, 50, 50, 48, 51, 32, 115, 117, 99, 104, 116, 104, 97, 116, 61, 50, 50, 48, 66, 32, 97, 115, 116, 101, 114, 105, 115, 107, 109, 97, 116, 104, 61, 50, 50, 49, 55, 32, 99, 111, 110, 103, 114, 117, 101, 110, 116, 61, 50, 50, 52, 53, 32, 116, 104, 101, 114, 101, 102, 111, 114, 101, 61, 50, 50, 51, 52, 32, 112, 101, 114, 112, 101, 110, 100, 105, 99, 117, 108, 97, 114, 61, 50, 50, 65, 53]⟩ : ByteArray), (⟨#[115, 105, 109, 105, 108, 97, 114, 61, 50, 50, 51, 67, 32, 109, 105, 110, 117, 116, 101, 61, 50, 48, 51, 50, 32, 99, 108, 117, 98, 61, 50, 54, 54, 51, 32, 100, 105, 97, 109, 111, 110, 100, 61, 50, 54, 54, 54, 32, 104, 101, 97, 114, 116, 61, 50, 54, 54, 53, 32, 115, 112, 97, 100, 101, 61, 50, 54, 54, 48]⟩ : ByteArray), (⟨#[97, 114, 114, 111, 119, 98, 111, 116, 104, 61, 50, 49, 57, 52, 32, 97, 114, 114, 111, 119, 108, 101, 102, 116, 61, 50, 49, 57, 48, 32, 97, 114, 114, 111, 119, 117, 112, 61, 50, 49, 57, 49, 32, 97, 114, 114, 111, 119, 114, 105, 103, 104, 116, 61, 50, 49, 57, 50, 32, 97, 114, 114, 111, 119, 100, 111, 119, 110, 61, 50, 49, 57, 51, 32, 115, 101, 99, 111, 110, 100, 61, 50, 48, 51, 51]⟩ : ByteArray), (⟨#[112, 114, 111, 112, 111, 114, 116, 105, 111, 110, 97, 108, 61, 50, 50, 49, 68, 32, 101, 113, 117, 105, 118, 97, 108, 101, 110, 99, 101, 61, 50, 50, 54, 49, 32, 97, 108, 101, 112, 104, 61, 50, 49, 51, 53, 32, 73, 102, 114, 97, 107, 116, 117, 114, 61, 50, 49, 49, 49, 32, 82, 102, 114, 97, 107, 116, 117, 114, 61, 50, 49, 49, 67, 32, 119, 101, 105, 101, 114, 115, 116, 114, 97, 115, 115, 61, 50, 49, 49, 56]⟩ : ByteArray), (⟨#[99, 105, 114, 99, 108, 101, 109, 117, 108, 116, 105, 112, 108, 121, 61, 50, 50, 57, 55, 32, 99, 105, 114, 99, 108, 101, 112, 108, 117, 115, 61, 50, 50, 57, 53, 32, 101, 109, 112, 116, 121, 115, 101, 116, 61, 50, 50, 48, 53, 32, 105, 110, 116, 101, 114, 115, 101, 99, 116, 105, 111, 110, 61, 50, 50, 50, 57, 32, 117, 110, 105, 111, 110, 61, 50, 50, 50, 65, 32, 112, 114, 111, 112, 101, 114, 115, 117, 112, 101, 114, 115, 101, 116, 61, 50, 50, 56, 51]⟩ : ByteArray), (⟨#[114, 101, 102, 108, 101, 120, 115, 117, 112, 101, 114, 115, 101, 116, 61, 50, 50, 56, 55, 32, 110, 111, 116, 115, 117, 98, 115, 101, 116, 61, 50, 50, 56, 52, 32, 112, 114, 111, 112, 101, 114, 115, 117, 98, 115, 101, 116, 61, 50, 50, 56, 50, 32, 114, 101, 102, 108, 101, 120, 115, 117, 98, 115, 101, 116, 61, 50, 50, 56, 54, 32, 101, 108, 101, 109, 101, 110, 116, 61, 50, 50, 48, 56, 32, 110, 111, 116, 101, 108, 101, 109, 101, 110, 116, 61, 50, 50, 48, 57]⟩ : ByteArray), (⟨#[97, 110, 103, 108, 101, 61, 50, 50, 50, 48, 32, 103, 114, 97, 100, 105, 101, 110, 116, 61, 50, 50, 48, 55, 32, 100, 111, 116, 109, 97, 116, 104, 61, 50, 50, 67, 53, 32, 108, 111, 103, 105, 99, 97, 108, 97, 110, 100, 61, 50, 50, 50, 55, 32, 108, 111, 103, 105, 99, 97, 108, 111, 114, 61, 50, 50, 50, 56, 32, 97, 114, 114, 111, 119, 100, 98, 108, 98, 111, 116, 104, 61, 50, 49, 68, 52]⟩ : ByteArray), (⟨#[97, 114, 114, 111, 119, 100, 98, 108, 108, 101, 102, 116, 61, 50, 49, 68, 48, 32, 97, 114, 114, 111, 119, 100, 98, 108, 117, 112, 61, 50, 49, 68, 49, 32, 97, 114, 114, 111, 119, 100, 98, 108, 114, 105, 103, 104, 116, 61, 50, 49, 68, 50, 32, 97, 114, 114, 111, 119, 100, 98, 108, 100, 111, 119, 110, 61, 50, 49, 68, 51, 32, 97, 110, 103, 108, 101, 108, 101, 102, 116, 61, 50, 51, 50, 57, 32, 97, 110, 103, 108, 101, 114, 105, 103, 104, 116, 61, 50, 51, 50, 65]⟩ : ByteArray), (⟨#[100, 97, 108, 101, 116, 104, 97, 116, 97, 102, 112, 97, 116, 97, 104, 61, 48, 53, 68, 51, 44, 48, 53, 66, 50, 32, 102, 102, 61, 70, 66, 48, 48, 32, 102, 102, 105, 61, 70, 66, 48, 51, 32, 102, 102, 108, 61, 70, 66, 48, 52, 32, 65, 109, 97, 99, 114, 111, 110, 61, 48, 49, 48, 48, 32, 97, 109, 97, 99, 114, 111, 110, 61, 48, 49, 48, 49]⟩ : ByteArray), (⟨#[65, 98, 114, 101, 118, 101, 61, 48, 49, 48, 50, 32, 97, 98, 114, 101, 118, 101, 61, 48, 49, 48, 51, 32, 76, 99, 111, 109, 109, 97, 97, 99, 99, 101, 110, 116, 61, 48, 49, 51, 66]⟩ : ByteArray)] : List ByteArray)) := ⟨_, rfl⟩
  replace H : (some y112) = some r := by first | (rw [hy112]; with_reducible exact H) | (have H2_ := (Option.bind_some _ _).symm.trans H; rw [hy112]; with_reducible exact H2_) | (have H2_ := (Option.bind_some _ _).symm.trans H; with_reducible exact H2_) | with_reducible exact H | (rw [hy112]; exact H) | exact H
  have Ny112 := Aside0.mk hy112
  clear hy112
  obtain rfl := Option.some.inj H
  go_enter Tryd.func59, Tryd.ntmps59
  go_wp2_with (first | ((with_reducible refine gate_dst (N := 1) rfl ?_); refine Kd.R_lit Kd.string _ 9 ?hg (N := 1) ?hd (xs := ([(⟨#[100, 105, 118, 105, 100, 101, 61, 48, 48, 70, 55, 32, 111, 115, 108, 97, 115, 104, 61, 48, 48, 70, 56, 32, 117, 103, 114, 97, 118, 101, 61, 48, 48, 70, 57, 32, 117, 97, 99, 117, 116, 101, 61, 48, 48, 70, 65, 32, 117, 99, 105, 114, 99, 117, 109, 102, 108, 101, 120, 61, 48, 48, 70, 66, 32, 117, 100, 105, 101, 114, 101, 115, 105, 115, 61, 48, 48, 70, 67]⟩ : ByteArray), (⟨#[121, 97, 99, 117, 116, 101, 61, 48, 48, 70, 68, 32, 116, 104, 111, 114, 110, 61, 48, 48, 70, 69, 32, 121, 100, 105, 101, 114, 101, 115, 105, 115, 61, 48, 48, 70, 70, 32, 69, 117, 114, 111, 61, 50, 48, 65, 67, 32, 113, 117, 111, 116, 101, 115, 105, 110, 103, 108, 98, 97, 115, 101, 61, 50, 48, 49, 65, 32, 102, 108, 111, 114, 105, 110, 61, 48, 49, 57, 50]⟩ : ByteArray), (⟨#[113, 117, 111, 116, 101, 100, 98, 108, 98, 97, 115, 101, 61, 50, 48, 49, 69, 32, 101, 108, 108, 105, 112, 115, 105, 115, 61, 50, 48, 50, 54, 32, 100, 97, 103, 103, 101, 114, 61, 50, 48, 50, 48, 32, 100, 97, 103, 103, 101, 114, 100, 98, 108, 61, 50, 48, 50, 49, 32, 99, 105, 114, 99, 117, 109, 102, 108, 101, 120, 61, 48, 50, 67, 54, 32, 112, 101, 114, 116, 104, 111, 117, 115, 97, 110, 100, 61, 50, 48, 51, 48]⟩ : ByteArray), (⟨#[83, 99, 97, 114, 111, 110, 61, 48, 49, 54, 48, 32, 103, 117, 105, 108, 115, 105, 110, 103, 108, 108, 101, 102, 116, 61, 50, 48, 51, 57, 32, 79, 69, 61, 48, 49, 53, 50, 32, 90, 99, 97, 114, 111, 110, 61, 48, 49, 55, 68, 32, 113, 117, 111, 116, 101, 108, 101, 102, 116, 61, 50, 48, 49, 56, 32, 113, 117, 111, 116, 101, 114, 105, 103, 104, 116, 61, 50, 48, 49, 57]⟩ : ByteArray), (⟨#[113, 117, 111, 116, 101, 100, 98, 108, 108, 101, 102, 116, 61, 50, 48, 49, 67, 32, 113, 117, 111, 116, 101, 100, 98, 108, 114, 105, 103, 104, 116, 61, 50, 48, 49, 68, 32, 98, 117, 108, 108, 101, 116, 61, 50, 48, 50, 50, 32, 101, 110, 100, 97, 115, 104, 61, 50, 48, 49, 51, 32, 101, 109, 100, 97, 115, 104, 61, 50, 48, 49, 52, 32, 116, 105, 108, 100, 101, 61, 48, 50, 68, 67]⟩ : ByteArray), (⟨#[116, 114, 97, 100, 101, 109, 97, 114, 107, 61, 50, 49, 50, 50, 32, 115, 99, 97, 114, 111, 110, 61, 48, 49, 54, 49, 32, 103, 117, 105, 108, 115, 105, 110, 103, 108, 114, 105, 103, 104, 116, 61, 50, 48, 51, 65, 32, 111, 101, 61, 48, 49, 53, 51, 32, 122, 99, 97, 114, 111, 110, 61, 48, 49, 55, 69, 32, 89, 100, 105, 101, 114, 101, 115, 105, 115, 61, 48, 49, 55, 56]⟩ : ByteArray), (⟨#[102, 105, 61, 70, 66, 48, 49, 32, 102, 108, 61, 70, 66, 48, 50, 32, 102, 114, 97, 99, 116, 105, 111, 110, 61, 50, 48, 52, 52, 32, 100, 111, 116, 108, 101, 115, 115, 105, 61, 48, 49, 51, 49, 32, 76, 115, 108, 97, 115, 104, 61, 48, 49, 52, 49, 32, 108, 115, 108, 97, 115, 104, 61, 48, 49, 52, 50]⟩ : ByteArray), (⟨#[98, 114, 101, 118, 101, 61, 48, 50, 68, 56, 32, 99, 97, 114, 111, 110, 61, 48, 50, 67, 55, 32, 100, 111, 116, 97, 99, 99, 101, 110, 116, 61, 48, 50, 68, 57, 32, 104, 117, 110, 103, 97, 114, 117, 109, 108, 97, 117, 116, 61, 48, 50, 68, 68, 32, 111, 103, 111, 110, 101, 107, 61, 48, 50, 68, 66, 32, 114, 105, 110, 103, 61, 48, 50, 68, 65]⟩ : ByteArray), (⟨#[109, 105, 110, 117, 115, 61, 50, 50, 49, 50, 32, 110, 111, 116, 101, 113, 117, 97, 108, 61, 50, 50, 54, 48, 32, 105, 110, 102, 105, 110, 105, 116, 121, 61, 50, 50, 49, 69, 32, 108, 101, 115, 115, 101, 113, 117, 97, 108, 61, 50, 50, 54, 52, 32, 103, 114, 101, 97, 116, 101, 114, 101, 113, 117, 97, 108, 61, 50, 50, 54, 53, 32, 112, 97, 114, 116, 105, 97, 108, 100, 105, 102, 102, 61, 50, 50, 48, 50]⟩ : ByteArray), (⟨#[115, 117, 109, 109, 97, 116, 105, 111, 110, 61, 50, 50, 49, 49, 32, 112, 114, 111, 100, 117, 99, 116, 61, 50, 50, 48, 70, 32, 112, 105, 61, 48, 51, 67, 48, 32, 105, 110, 116, 101, 103, 114, 97, 108, 61, 50, 50, 50, 66, 32, 79, 109, 101, 103, 97, 61, 50, 49, 50, 54, 32, 114, 97, 100, 105, 99, 97, 108, 61, 50, 50, 49, 65]⟩ : ByteArray), (⟨#[97, 112, 112, 114, 111, 120, 101, 113, 117, 97, 108, 61, 50, 50, 52, 56, 32, 68, 101, 108, 116, 97, 61, 50, 50, 48, 54, 32, 108, 111, 122, 101, 110, 103, 101, 61, 50, 53, 67, 65, 32, 97, 112, 112, 108, 101, 61, 70, 56, 70, 70, 32, 65, 108, 112, 104, 97, 61, 48, 51, 57, 49, 32, 66, 101, 116, 97, 61, 48, 51, 57, 50]⟩ : ByteArray), (⟨#[71, 97, 109, 109, 97, 61, 48, 51, 57, 51, 32, 69, 112, 115, 105, 108, 111, 110, 61, 48, 51, 57, 53, 32, 90, 101, 116, 97, 61, 48, 51, 57, 54, 32, 69, 116, 97, 61, 48, 51, 57, 55, 32, 84, 104, 101, 116, 97, 61, 48, 51, 57, 56, 32, 73, 111, 116, 97, 61, 48, 51, 57, 57]⟩ : ByteArray), (⟨#[75, 97, 112, 112, 97, 61, 48, 51, 57, 65, 32, 76, 97, 109, 98, 100, 97, 61, 48, 51, 57, 66, 32, 77, 117, 61, 48, 51, 57, 67, 32, 78, 117, 61, 48, 51, 57, 68, 32, 88, 105, 61, 48, 51, 57, 69, 32, 79, 109, 105, 99, 114, 111, 110, 61, 48, 51, 57, 70]⟩ : ByteArray), (⟨#[80, 105, 61, 48, 51, 65, 48, 32, 82, 104, 111, 61, 48, 51, 65, 49, 32, 83, 105, 103, 109, 97, 61, 48, 51, 65, 51, 32, 84, 97, 117, 61, 48, 51, 65, 52, 32, 85, 112, 115, 105, 108, 111, 110, 61, 48, 51, 65, 53, 32, 80, 104, 105, 61, 48, 51, 65, 54]⟩ : ByteArray), (⟨#[67, 104, 105, 61, 48, 51, 65, 55, 32, 80, 115, 105, 61, 48, 51, 65, 56, 32, 97, 108, 112, 104, 97, 61, 48, 51, 66, 49, 32, 98, 101, 116, 97, 61, 48, 51, 66, 50, 32, 103, 97, 109, 109, 97, 61, 48, 51, 66, 51, 32, 100, 101, 108, 116, 97, 61, 48, 51, 66, 52]⟩ : ByteArray), (⟨#[101, 112, 115, 105, 108, 111, 110, 61, 48, 51, 66, 53, 32, 122, 101, 116, 97, 61, 48, 51, 66, 54, 32, 101, 116, 97, 61, 48, 51, 66, 55, 32, 116, 104, 101, 116, 97, 61, 48, 51, 66, 56, 32, 105, 111, 116, 97, 61, 48, 51, 66, 57, 32, 107, 97, 112, 112, 97, 61, 48, 51, 66, 65]⟩ : ByteArray), (⟨#[108, 97, 109, 98, 100, 97, 61, 48, 51, 66, 66, 32, 110, 117, 61, 48, 51, 66, 68, 32, 120, 105, 61, 48, 51, 66, 69, 32, 111, 109, 105, 99, 114, 111, 110, 61, 48, 51, 66, 70, 32, 114, 104, 111, 61, 48, 51, 67, 49, 32, 115, 105, 103, 109, 97, 49, 61, 48, 51, 67, 50]⟩ : ByteArray), (⟨#[115, 105, 103, 109, 97, 61, 48, 51, 67, 51, 32, 116, 97, 117, 61, 48, 51, 67, 52, 32, 117, 112, 115, 105, 108, 111, 110, 61, 48, 51, 67, 53, 32, 112, 104, 105, 61, 48, 51, 67, 54, 32, 99, 104, 105, 61, 48, 51, 67, 55, 32, 112, 115, 105, 61, 48, 51, 67, 56]⟩ : ByteArray), (⟨#[111, 109, 101, 103, 97, 61, 48, 51, 67, 57, 32, 116, 104, 101, 116, 97, 49, 61, 48, 51, 68, 49, 32, 85, 112, 115, 105, 108, 111, 110, 49, 61, 48, 51, 68, 50, 32, 112, 104, 105, 49, 61, 48, 51, 68, 53, 32, 111, 109, 101, 103, 97, 49, 61, 48, 51, 68, 54, 32, 117, 110, 105, 118, 101, 114, 115, 97, 108, 61, 50, 50, 48, 48]⟩ : ByteArray), (⟨#[101, 120, 105, 115, 116, 101, 110, 116, 105, 97, 108, 61, 50, 50, 48, 51, 32, 115, 117, 99, 104, 116, 104, 97, 116, 61, 50, 50, 48, 66, 32, 97, 115, 116, 101, 114, 105, 115, 107, 109, 97, 116, 104, 61, 50, 50, 49, 55, 32, 99, 111, 110, 103, 114, 117, 101, 110, 116, 61, 50, 50, 52, 53, 32, 116, 104, 101, 114, 101, 102, 111, 114, 101, 61, 50, 50, 51, 52, 32, 112, 101, 114, 112, 101, 110, 100, 105, 99, 117, 108, 97, 114, 61, 50, 50, 65, 53]⟩ : ByteArray), (⟨#[115, 105, 109, 105, 108, 97, 114, 61, 50, 50, 51, 67, 32, 109, 105, 110, 117, 116, 101, 61, 50, 48, 51, 50, 32, 99, 108, 117, 98, 61, 50, 54, 54, 51, 32, 100, 105, 97, 109, 111, 110, 100, 61, 50, 54, 54, 54, 32, 104, 101, 97, 114, 116, 61, 50, 54, 54, 53, 32, 115, 112, 97, 100, 101, 61, 50, 54, 54, 48]⟩ : ByteArray), (⟨#[97, 114, 114, 111, 119, 98, 111, 116, 104, 61, 50, 49, 57, 52, 32, 97, 114, 114, 111, 119, 108, 101, 102, 116, 61, 50, 49, 57, 48, 32, 97, 114, 114, 111, 119, 117, 112, 61, 50, 49, 57, 49, 32, 97, 114, 114, 111, 119, 114, 105, 103, 104, 116, 61, 50, 49, 57, 50, 32, 97, 114, 114, 111, 119, 100, 111, 119, 110, 61, 50, 49, 57, 51, 32, 115, 101, 99, 111, 110, 100, 61, 50, 48, 51, 51]⟩ : ByteArray), (⟨#[112, 114, 111, 112, 111, 114, 116, 105, 111, 110, 97, 108, 61, 50, 50, 49, 68, 32, 101, 113, 117, 105, 118, 97, 108, 101, 110, 99, 101, 61, 50, 50, 54, 49, 32, 97, 108, 101, 112, 104, 61, 50, 49, 51, 53, 32, 73, 102, 114, 97, 107, 116, 117, 114, 61, 50, 49, 49, 49, 32, 82, 102, 114, 97, 107, 116, 117, 114, 61, 50, 49, 49, 67, 32, 119, 101, 105, 101, 114, 115, 116, 114, 97, 115, 115, 61, 50, 49, 49, 56]⟩ : ByteArray), (⟨#[99, 105, 114, 99, 108, 101, 109, 117, 108, 116, 105, 112, 108, 121, 61, 50, 50, 57, 55, 32, 99, 105, 114, 99, 108, 101, 112, 108, 117, 115, 61, 50, 50, 57, 53, 32, 101, 109, 112, 116, 121, 115, 101, 116, 61, 50, 50, 48, 53, 32, 105, 110, 116, 101, 114, 115, 101, 99, 116, 105, 111, 110, 61, 50, 50, 50, 57, 32, 117, 110, 105, 111, 110, 61, 50, 50, 50, 65, 32, 112, 114, 111, 112, 101, 114, 115, 117, 112, 101, 114, 115, 101, 116, 61, 50, 50, 56, 51]⟩ : ByteArray), (⟨#[114, 101, 102, 108, 101, 120, 115, 117, 112, 101, 114, 115, 101, 116, 61, 50, 50, 56, 55, 32, 110, 111, 116, 115, 117, 98, 115, 101, 116, 61, 50, 50, 56, 52, 32, 112, 114, 111, 112, 101, 114, 115, 117, 98, 115, 101, 116, 61, 50, 50, 56, 50, 32, 114, 101, 102, 108, 101, 120, 115, 117, 98, 115, 101, 116, 61, 50, 50, 56, 54, 32, 101, 108, 101, 109, 101, 110, 116, 61, 50, 50, 48, 56, 32, 110, 111, 116, 101, 108, 101, 109, 101, 110, 116, 61, 50, 50, 48, 57]⟩ : ByteArray), (⟨#[97, 110, 103, 108, 101, 61, 50, 50, 50, 48, 32, 103, 114, 97, 100, 105, 101, 110, 116, 61, 50, 50, 48, 55, 32, 100, 111, 116, 109, 97, 116, 104, 61, 50, 50, 67, 53, 32, 108, 111, 103, 105, 99, 97, 108, 97, 110, 100, 61, 50, 50, 50, 55, 32, 108, 111, 103, 105, 99, 97, 108, 111, 114, 61, 50, 50, 50, 56, 32, 97, 114, 114, 111, 119, 100, 98, 108, 98, 111, 116, 104, 61, 50, 49, 68, 52]⟩ : ByteArray), (⟨#[97, 114, 114, 111, 119, 100, 98, 108, 108, 101, 102, 116, 61, 50, 49, 68, 48, 32, 97, 114, 114, 111, 119, 100, 98, 108, 117, 112, 61, 50, 49, 68, 49, 32, 97, 114, 114, 111, 119, 100, 98, 108, 114, 105, 103, 104, 116, 61, 50, 49, 68, 50, 32, 97, 114, 114, 111, 119, 100, 98, 108, 100, 111, 119, 110, 61, 50, 49, 68, 51, 32, 97, 110, 103, 108, 101, 108, 101, 102, 116, 61, 50, 51, 50, 57, 32, 97, 110, 103, 108, 101, 114, 105, 103, 104, 116, 61, 50, 51, 50, 65]⟩ : ByteArray), (⟨#[100, 97, 108, 101, 116, 104, 97, 116, 97, 102, 112, 97, 116, 97, 104, 61, 48, 53, 68, 51, 44, 48, 53, 66, 50, 32, 102, 102, 61, 70, 66, 48, 48, 32, 102, 102, 105, 61, 70, 66, 48, 51, 32, 102, 102, 108, 61, 70, 66, 48, 52, 32, 65, 109, 97, 99, 114, 111, 110, 61, 48, 49, 48, 48, 32, 97, 109, 97, 99, 114, 111, 110, 61, 48, 49, 48, 49]⟩ : ByteArray), (⟨#[65, 98, 114, 101, 118, 101, 61, 48, 49, 48, 50, 32, 97, 98, 114, 101, 118, 101, 61, 48, 49, 48, 51, 32, 76, 99, 111, 109, 109, 97, 97, 99, 99, 101, 110, 116, 61, 48, 49, 51, 66]⟩ : ByteArray)] : List ByteArray)) (inner := [.string (⟨#[100, 105, 118, 105, 100, 101, 61, 48, 48, 70, 55, 32, 111, 115, 108, 97, 115, 104, 61, 48, 48, 70, 56, 32, 117, 103, 114, 97, 118, 101, 61, 48, 48, 70, 57, 32, 117, 97, 99, 117, 116, 101, 61, 48, 48, 70, 65, 32, 117, 99, 105, 114, 99, 117, 109, 102, 108, 101, 120, 61, 48, 48, 70, 66, 32, 117, 100, 105, 101, 114, 101, 115, 105, 115, 61, 48, 48, 70, 67]⟩ : ByteArray), .string (⟨#[121, 97, 99, 117, 116, 101, 61, 48, 48, 70, 68, 32, 116, 104, 111, 114, 110, 61, 48, 48, 70, 69, 32, 121, 100, 105, 101, 114, 101, 115, 105, 115, 61, 48, 48, 70, 70, 32, 69, 117, 114, 111, 61, 50, 48, 65, 67, 32, 113, 117, 111, 116, 101, 115, 105, 110, 103, 108, 98, 97, 115, 101, 61, 50, 48, 49, 65, 32, 102, 108, 111, 114, 105, 110, 61, 48, 49, 57, 50]⟩ : ByteArray), .string (⟨#[113, 117, 111, 116, 101, 100, 98, 108, 98, 97, 115, 101, 61, 50, 48, 49, 69, 32, 101, 108, 108, 105, 112, 115, 105, 115, 61, 50, 48, 50, 54, 32, 100, 97, 103, 103, 101, 114, 61, 50, 48, 50, 48, 32, 100, 97, 103, 103, 101, 114, 100, 98, 108, 61, 50, 48, 50, 49, 32, 99, 105, 114, 99, 117, 109, 102, 108, 101, 120, 61, 48, 50, 67, 54, 32, 112, 101, 114, 116, 104, 111, 117, 115, 97, 110, 100, 61, 50, 48, 51, 48]⟩ : ByteArray), .string (⟨#[83, 99, 97, 114, 111, 110, 61, 48, 49, 54, 48, 32, 103, 117, 105, 108, 115, 105, 110, 103, 108, 108, 101, 102, 116, 61, 50, 48, 51, 57, 32, 79, 69, 61, 48, 49, 53, 50, 32, 90, 99, 97, 114, 111, 110, 61, 48, 49, 55, 68, 32, 113, 117, 111, 116, 101, 108, 101, 102, 116, 61, 50, 48, 49, 56, 32, 113, 117, 111, 116, 101, 114, 105, 103, 104, 116, 61, 50, 48, 49, 57]⟩ : ByteArray), .string (⟨#[113, 117, 111, 116, 101, 100, 98, 108, 108, 101, 102, 116, 61, 50, 48, 49, 67, 32, 113, 117, 111, 116, 101, 100, 98, 108, 114, 105, 103, 104, 116, 61, 50, 48, 49, 68, 32, 98, 117, 108, 108, 101, 116, 61, 50, 48, 50, 50, 32, 101, 110, 100, 97, 115, 104, 61, 50, 48, 49, 51, 32, 101, 109, 100, 97, 115, 104, 61, 50, 48, 49, 52, 32, 116, 105, 108, 100, 101, 61, 48, 50, 68, 67]⟩ : ByteArray), .string (⟨#[116, 114, 97, 100, 101, 109, 97, 114, 107, 61, 50, 49, 50, 50, 32, 115, 99, 97, 114, 111, 110, 61, 48, 49, 54, 49, 32, 103, 117, 105, 108, 115, 105, 110, 103, 108, 114, 105, 103, 104, 116, 61, 50, 48, 51, 65, 32, 111, 101, 61, 48, 49, 53, 51, 32, 122, 99, 97, 114, 111, 110, 61, 48, 49, 55, 69, 32, 89, 100, 105, 101, 114, 101, 115, 105, 115, 61, 48, 49, 55, 56]⟩ : ByteArray), .string (⟨#[102, 105, 61, 70, 66, 48, 49, 32, 102, 108, 61, 70, 66, 48, 50, 32, 102, 114, 97, 99, 116, 105, 111, 110, 61, 50, 48, 52, 52, 32, 100, 111, 116, 108, 101, 115, 115, 105, 61, 48, 49, 51, 49, 32, 76, 115, 108, 97, 115, 104, 61, 48, 49, 52, 49, 32, 108, 115, 108, 97, 115, 104, 61, 48, 49, 52, 50]⟩ : ByteArray), .string (⟨#[98, 114, 101, 118, 101, 61, 48, 50, 68, 56, 32, 99, 97, 114, 111, 110, 61, 48, 50, 67, 55, 32, 100, 111, 116, 97, 99, 99, 101, 110, 116, 61, 48, 50, 68, 57, 32, 104, 117, 110, 103, 97, 114, 117, 109, 108, 97, 117, 116, 61, 48, 50, 68, 68, 32, 111, 103, 111, 110, 101, 107, 61, 48, 50, 68, 66, 32, 114, 105, 110, 103, 61, 48, 50, 68, 65]⟩ : ByteArray), .string (⟨#[109, 105, 110, 117, 115, 61, 50, 50, 49, 50, 32, 110, 111, 116, 101, 113, 117, 97, 108, 61, 50, 50, 54, 48, 32, 105, 110, 102, 105, 110, 105, 116, 121, 61, 50, 50, 49, 69, 32, 108, 101, 115, 115, 101, 113, 117, 97, 108, 61, 50, 50, 54, 52, 32, 103, 114, 101, 97, 116, 101, 114, 101, 113, 117, 97, 108, 61, 50, 50, 54, 53, 32, 112, 97, 114, 116, 105, 97, 108, 100, 105, 102, 102, 61, 50, 50, 48, 50]⟩ : ByteArray), .string (⟨#[115, 117, 109, 109, 97, 116, 105, 111, 110, 61, 50, 50, 49, 49, 32, 112, 114, 111, 100, 117, 99, 116, 61, 50, 50, 48, 70, 32, 112, 105, 61, 48, 51, 67, 48, 32, 105, 110, 116, 101, 103, 114, 97, 108, 61, 50, 50, 50, 66, 32, 79, 109, 101, 103, 97, 61, 50, 49, 50, 54, 32, 114, 97, 100, 105, 99, 97, 108, 61, 50, 50, 49, 65]⟩ : ByteArray), .string (⟨#[97, 112, 112, 114, 111, 120, 101, 113, 117, 97, 108, 61, 50, 50, 52, 56, 32, 68, 101, 108, 116, 97, 61, 50, 50, 48, 54, 32, 108, 111, 122, 101, 110, 103, 101, 61, 50, 53, 67, 65, 32, 97, 112, 112, 108, 101, 61, 70, 56, 70, 70, 32, 65, 108, 112, 104, 97, 61, 48, 51, 57, 49, 32, 66, 101, 116, 97, 61, 48, 51, 57, 50]⟩ : ByteArray), .string (⟨#[71, 97, 109, 109, 97, 61, 48, 51, 57, 51, 32, 69, 112, 115, 105, 108, 111, 110, 61, 48, 51, 57, 53, 32, 90, 101, 116, 97, 61, 48, 51, 57, 54, 32, 69, 116, 97, 61, 48, 51, 57, 55, 32, 84, 104, 101, 116, 97, 61, 48, 51, 57, 56, 32, 73, 111, 116, 97, 61, 48, 51, 57, 57]⟩ : ByteArray), .string (⟨#[75, 97, 112, 112, 97, 61, 48, 51, 57, 65, 32, 76, 97, 109, 98, 100, 97, 61, 48, 51, 57, 66, 32, 77, 117, 61, 48, 51, 57, 67, 32, 78, 117, 61, 48, 51, 57, 68, 32, 88, 105, 61, 48, 51, 57, 69, 32, 79, 109, 105, 99, 114, 111, 110, 61, 48, 51, 57, 70]⟩ : ByteArray), .string (⟨#[80, 105, 61, 48, 51, 65, 48, 32, 82, 104, 111, 61, 48, 51, 65, 49, 32, 83, 105, 103, 109, 97, 61, 48, 51, 65, 51, 32, 84, 97, 117, 61, 48, 51, 65, 52, 32, 85, 112, 115, 105, 108, 111, 110, 61, 48, 51, 65, 53, 32, 80, 104, 105, 61, 48, 51, 65, 54]⟩ : ByteArray), .string (⟨#[67, 104, 105, 61, 48, 51, 65, 55, 32, 80, 115, 105, 61, 48, 51, 65, 56, 32, 97, 108, 112, 104, 97, 61, 48, 51, 66, 49, 32, 98, 101, 116, 97, 61, 48, 51, 66, 50, 32, 103, 97, 109, 109, 97, 61, 48, 51, 66, 51, 32, 100, 101, 108, 116, 97, 61, 48, 51, 66, 52]⟩ : ByteArray), .string (⟨#[101, 112, 115, 105, 108, 111, 110, 61, 48, 51, 66, 53, 32, 122, 101, 116, 97, 61, 48, 51, 66, 54, 32, 101, 116, 97, 61, 48, 51, 66, 55, 32, 116, 104, 101, 116, 97, 61, 48, 51, 66, 56, 32, 105, 111, 116, 97, 61, 48, 51, 66, 57, 32, 107, 97, 112, 112, 97, 61, 48, 51, 66, 65]⟩ : ByteArray), .string (⟨#[108, 97, 109, 98, 100, 97, 61, 48, 51, 66, 66, 32, 110, 117, 61, 48, 51, 66, 68, 32, 120, 105, 61, 48, 51, 66, 69, 32, 111, 109, 105, 99, 114, 111, 110, 61, 48, 51, 66, 70, 32, 114, 104, 111, 61, 48, 51, 67, 49, 32, 115, 105, 103, 109, 97, 49, 61, 48, 51, 67, 50]⟩ : ByteArray), .string (⟨#[115, 105, 103, 109, 97, 61, 48, 51, 67, 51, 32, 116, 97, 117, 61, 48, 51, 67, 52, 32, 117, 112, 115, 105, 108, 111, 110, 61, 48, 51, 67, 53, 32, 112, 104, 105, 61, 48, 51, 67, 54, 32, 99, 104, 105, 61, 48, 51, 67, 55, 32, 112, 115, 105, 61, 48, 51, 67, 56]⟩ : ByteArray), .string (⟨#[111, 109, 101, 103, 97, 61, 48, 51, 67, 57, 32, 116, 104, 101, 116, 97, 49, 61, 48, 51, 68, 49, 32, 85, 112, 115, 105, 108, 111, 110, 49, 61, 48, 51, 68, 50, 32, 112, 104, 105, 49, 61, 48, 51, 68, 53, 32, 111, 109, 101, 103, 97, 49, 61, 48, 51, 68, 54, 32, 117, 110, 105, 118, 101, 114, 115, 97, 108, 61, 50, 50, 48, 48]⟩ : ByteArray), .string (⟨#[101, 120, 105, 115, 116, 101, 110, 116, 105, 97, 108, 61, 50, 50, 48, 51, 32, 115, 117, 99, 104, 116, 104, 97, 116, 61, 50, 50, 48, 66, 32, 97, 115, 116, 101, 114, 105, 115, 107, 109, 97, 116, 104, 61, 50, 50, 49, 55, 32, 99, 111, 110, 103, 114, 117, 101, 110, 116, 61, 50, 50, 52, 53, 32, 116, 104, 101, 114, 101, 102, 111, 114, 101, 61, 50, 50, 51, 52, 32, 112, 101, 114, 112, 101, 110, 100, 105, 99, 117, 108, 97, 114, 61, 50, 50, 65, 53]⟩ : ByteArray), .string (⟨#[115, 105, 109, 105, 108, 97, 114, 61, 50, 50, 51, 67, 32, 109, 105, 110, 117, 116, 101, 61, 50, 48, 51, 50, 32, 99, 108, 117, 98, 61, 50, 54, 54, 51, 32, 100, 105, 97, 109, 111, 110, 100, 61, 50, 54, 54, 54, 32, 104, 101, 97, 114, 116, 61, 50, 54, 54, 53, 32, 115, 112, 97, 100, 101, 61, 50, 54, 54, 48]⟩ : ByteArray), .string (⟨#[97, 114, 114, 111, 119, 98, 111, 116, 104, 61, 50, 49, 57, 52, 32, 97, 114, 114, 111, 119, 108, 101, 102, 116, 61, 50, 49, 57, 48, 32, 97, 114, 114, 111, 119, 117, 112, 61, 50, 49, 57, 49, 32, 97, 114, 114, 111, 119, 114, 105, 103, 104, 116, 61, 50, 49, 57, 50, 32, 97, 114, 114, 111, 119, 100, 111, 119, 110, 61, 50, 49, 57, 51, 32, 115, 101, 99, 111, 110, 100, 61, 50, 48, 51, 51]⟩ : ByteArray), .string (⟨#[112, 114, 111, 112, 111, 114, 116, 105, 111, 110, 97, 108, 61, 50, 50, 49, 68, 32, 101, 113, 117, 105, 118, 97, 108, 101, 110, 99, 101, 61, 50, 50, 54, 49, 32, 97, 108, 101, 112, 104, 61, 50, 49, 51, 53, 32, 73, 102, 114, 97, 107, 116, 117, 114, 61, 50, 49, 49, 49, 32, 82, 102, 114, 97, 107, 116, 117, 114, 61, 50, 49, 49, 67, 32, 119, 101, 105, 101, 114, 115, 116, 114, 97, 115, 115, 61, 50, 49, 49, 56]⟩ : ByteArray), .string (⟨#[99, 105, 114, 99, 108, 101, 109, 117, 108, 116, 105, 112, 108, 121, 61, 50, 50, 57, 55, 32, 99, 105, 114, 99, 108, 101, 112, 108, 117, 115, 61, 50, 50, 57, 53, 32, 101, 109, 112, 116, 121, 115, 101, 116, 61, 50, 50, 48, 53, 32, 105, 110, 116, 101, 114, 115, 101, 99, 116, 105, 111, 110, 61, 50, 50, 50, 57, 32, 117, 110, 105, 111, 110, 61, 50, 50, 50, 65, 32, 112, 114, 111, 112, 101, 114, 115, 117, 112, 101, 114, 115, 101, 116, 61, 50, 50, 56, 51]⟩ : ByteArray), .string (⟨#[114, 101, 102, 108, 101, 120, 115, 117, 112, 101, 114, 115, 101, 116, 61, 50, 50, 56, 55, 32, 110, 111, 116, 115, 117, 98, 115, 101, 116, 61, 50, 50, 56, 52, 32, 112, 114, 111, 112, 101, 114, 115, 117, 98, 115, 101, 116, 61, 50, 50, 56, 50, 32, 114, 101, 102, 108, 101, 120, 115, 117, 98, 115, 101, 116, 61, 50, 50, 56, 54, 32, 101, 108, 101, 109, 101, 110, 116, 61, 50, 50, 48, 56, 32, 110, 111, 116, 101, 108, 101, 109, 101, 110, 116, 61, 50, 50, 48, 57]⟩ : ByteArray), .string (⟨#[97, 110, 103, 108, 101, 61, 50, 50, 50, 48, 32, 103, 114, 97, 100, 105, 101, 110, 116, 61, 50, 50, 48, 55, 32, 100, 111, 116, 109, 97, 116, 104, 61, 50, 50, 67, 53, 32, 108, 111, 103, 105, 99, 97, 108, 97, 110, 100, 61, 50, 50, 50, 55, 32, 108, 111, 103, 105, 99, 97, 108, 111, 114, 61, 50, 50, 50, 56, 32, 97, 114, 114, 111, 119, 100, 98, 108, 98, 111, 116, 104, 61, 50, 49, 68, 52]⟩ : ByteArray), .string (⟨#[97, 114, 114, 111, 119, 100, 98, 108, 108, 101, 102, 116, 61, 50, 49, 68, 48, 32, 97, 114, 114, 111, 119, 100, 98, 108, 117, 112, 61, 50, 49, 68, 49, 32, 97, 114, 114, 111, 119, 100, 98, 108, 114, 105, 103, 104, 116, 61, 50, 49, 68, 50, 32, 97, 114, 114, 111, 119, 100, 98, 108, 100, 111, 119, 110, 61, 50, 49, 68, 51, 32, 97, 110, 103, 108, 101, 108, 101, 102, 116, 61, 50, 51, 50, 57, 32, 97, 110, 103, 108, 101, 114, 105, 103, 104, 116, 61, 50, 51, 50, 65]⟩ : ByteArray), .string (⟨#[100, 97, 108, 101, 116, 104, 97, 116, 97, 102, 112, 97, 116, 97, 104, 61, 48, 53, 68, 51, 44, 48, 53, 66, 50, 32, 102, 102, 61, 70, 66, 48, 48, 32, 102, 102, 105, 61, 70, 66, 48, 51, 32, 102, 102, 108, 61, 70, 66, 48, 52, 32, 65, 109, 97, 99, 114, 111, 110, 61, 48, 49, 48, 48, 32, 97, 109, 97, 99, 114, 111, 110, 61, 48, 49, 48, 49]⟩ : ByteArray), .string (⟨#[65, 98, 114, 101, 118, 101, 61, 48, 49, 48, 50, 32, 97, 98, 114, 101, 118, 101, 61, 48, 49, 48, 51, 32, 76, 99, 111, 109, 109, 97, 97, 99, 99, 101, 110, 116, 61, 48, 49, 51, 66]⟩ : ByteArray)]) (ok := fun _ => True) (okp := fun _ => True) ?hr ?hp (fun _ hk => hk) trivial (Below.refl _ _) (Nat.le_refl _) (by simp) ?_; (case hd => rfl); (case hg => rfl); (case hr => first | (go_simp; done) | (go_simp; rfl)); (case hp => exact (Reps.one (show Kd.M Kd.string _ _ _ (⟨#[100, 105, 118, 105, 100, 101, 61, 48, 48, 70, 55, 32, 111, 115, 108, 97, 115, 104, 61, 48, 48, 70, 56, 32, 117, 103, 114, 97, 118, 101, 61, 48, 48, 70, 57, 32, 117, 97, 99, 117, 116, 101, 61, 48, 48, 70, 65, 32, 117, 99, 105, 114, 99, 117, 109, 102, 108, 101, 120, 61, 48, 48, 70, 66, 32, 117, 100, 105, 101, 114, 101, 115, 105, 115, 61, 48, 48, 70, 67]⟩ : ByteArray) [.string (⟨#[100, 105, 118, 105, 100, 101, 61, 48, 48, 70, 55, 32, 111, 115, 108, 97, 115, 104, 61, 48, 48, 70, 56, 32, 117, 103, 114, 97, 118, 101, 61, 48, 48, 70, 57, 32, 117, 97, 99, 117, 116, 101, 61, 48, 48, 70, 65, 32, 117, 99, 105, 114, 99, 117, 109, 102, 108, 101, 120, 61, 48, 48, 70, 66, 32, 117, 100, 105, 101, 114, 101, 115, 105, 115, 61, 48, 48, 70, 67]⟩ : ByteArray)] from rfl) (Reps.one (show Kd.M Kd.string _ _ _ (⟨#[121, 97, 99, 117, 116, 101, 61, 48, 48, 70, 68, 32, 116, 104, 111, 114, 110, 61, 48, 48, 70, 69, 32, 121, 100, 105, 101, 114, 101, 115, 105, 115, 61, 48, 48, 70, 70, 32, 69, 117, 114, 111, 61, 50, 48, 65, 67, 32, 113, 117, 111, 116, 101, 115, 105, 110, 103, 108, 98, 97, 115, 101, 61, 50, 48, 49, 65, 32, 102, 108, 111, 114, 105, 110, 61, 48, 49, 57, 50]⟩ : ByteArray) [.string (⟨#[121, 97, 99, 117, 116, 101, 61, 48, 48, 70, 68, 32, 116, 104, 111, 114, 110, 61, 48, 48, 70, 69, 32, 121, 100, 105, 101, 114, 101, 115, 105, 115, 61, 48, 48, 70, 70, 32, 69, 117, 114, 111, 61, 50, 48, 65, 67, 32, 113, 117, 111, 116, 101, 115, 105, 110, 103, 108, 98, 97, 115, 101, 61, 50, 48, 49, 65, 32, 102, 108, 111, 114, 105, 110, 61, 48, 49, 57, 50]⟩ : ByteArray)] from rfl) (Reps.one (show Kd.M Kd.string _ _ _ (⟨#[113, 117, 111, 116, 101, 100, 98, 108, 98, 97, 115, 101, 61, 50, 48, 49, 69, 32, 101, 108, 108, 105, 112, 115, 105, 115, 61, 50, 48, 50, 54, 32, 100, 97, 103, 103, 101, 114, 61, 50, 48, 50, 48, 32, 100, 97, 103, 103, 101, 114, 100, 98, 108, 61, 50, 48, 50, 49, 32, 99, 105, 114, 99, 117, 109, 102, 108, 101, 120, 61, 48, 50, 67, 54, 32, 112, 101, 114, 116, 104, 111, 117, 115, 97, 110, 100, 61, 50, 48, 51, 48]⟩ : ByteArray) [.string (⟨#[113, 117, 111, 116, 101, 100, 98, 108, 98, 97, 115, 101, 61, 50, 48, 49, 69, 32, 101, 108, 108, 105, 112, 115, 105, 115, 61, 50, 48, 50, 54, 32, 100, 97, 103, 103, 101, 114, 61, 50, 48, 50, 48, 32, 100, 97, 103, 103, 101, 114, 100, 98, 108, 61, 50, 48, 50, 49, 32, 99, 105, 114, 99, 117, 109, 102, 108, 101, 120, 61, 48, 50, 67, 54, 32, 112, 101, 114, 116, 104, 111, 117, 115, 97, 110, 100, 61, 50, 48, 51, 48]⟩ : ByteArray)] from rfl) (Reps.one (show Kd.M Kd.string _ _ _ (⟨#[83, 99, 97, 114, 111, 110, 61, 48, 49, 54, 48, 32, 103, 117, 105, 108, 115, 105, 110, 103, 108, 108, 101, 102, 116, 61, 50, 48, 51, 57, 32, 79, 69, 61, 48, 49, 53, 50, 32, 90, 99, 97, 114, 111, 110, 61, 48, 49, 55, 68, 32, 113, 117, 111, 116, 101, 108, 101, 102, 116, 61, 50, 48, 49, 56, 32, 113, 117, 111, 116, 101, 114, 105, 103, 104, 116, 61, 50, 48, 49, 57]⟩ : ByteArray) [.string (⟨#[83, 99, 97, 114, 111, 110, 61, 48, 49, 54, 48, 32, 103, 117, 105, 108, 115, 105, 110, 103, 108, 108, 101, 102, 116, 61, 50, 48, 51, 57, 32, 79, 69, 61, 48, 49, 53, 50, 32, 90, 99, 97, 114, 111, 110, 61, 48, 49, 55, 68, 32, 113, 117, 111, 116, 101, 108, 101, 102, 116, 61, 50, 48, 49, 56, 32, 113, 117, 111, 116, 101, 114, 105, 103, 104, 116, 61, 50, 48, 49, 57]⟩ : ByteArray)] from rfl) (Reps.one (show Kd.M Kd.string _ _ _ (⟨#[113, 117, 111, 116, 101, 100, 98, 108, 108, 101, 102, 116, 61, 50, 48, 49, 67, 32, 113, 117, 111, 116, 101, 100, 98, 108, 114, 105, 103, 104, 116, 61, 50, 48, 49, 68, 32, 98, 117, 108, 108, 101, 116, 61, 50, 48, 50, 50, 32, 101, 110, 100, 97, 115, 104, 61, 50, 48, 49, 51, 32, 101, 109, 100, 97, 115, 104, 61, 50, 48, 49, 52, 32, 116, 105, 108, 100, 101, 61, 48, 50, 68, 67]⟩ : ByteArray) [.string (⟨#[113, 117, 111, 116, 101, 100, 98, 108, 108, 101, 102, 116, 61, 50, 48, 49, 67, 32, 113, 117, 111, 116, 101, 100, 98, 108, 114, 105, 103, 104, 116, 61, 50, 48, 49, 68, 32, 98, 117, 108, 108, 101, 116, 61, 50, 48, 50, 50, 32, 101, 110, 100, 97, 115, 104, 61, 50, 48, 49, 51, 32, 101, 109, 100, 97, 115, 104, 61, 50, 48, 49, 52, 32, 116, 105, 108, 100, 101, 61, 48, 50, 68, 67]⟩ : ByteArray)] from rfl) (Reps.one (show Kd.M Kd.string _ _ _ (⟨#[116, 114, 97, 100, 101, 109, 97, 114, 107, 61, 50, 49, 50, 50, 32, 115, 99, 97, 114, 111, 110, 61, 48, 49, 54, 49, 32, 103, 117, 105, 108, 115, 105, 110, 103, 108, 114, 105, 103, 104, 116, 61, 50, 48, 51, 65, 32, 111, 101, 61, 48, 49, 53, 51, 32, 122, 99, 97, 114, 111, 110, 61, 48, 49, 55, 69, 32, 89, 100, 105, 101, 114, 101, 115, 105, 115, 61, 48, 49, 55, 56]⟩ : ByteArray) [.string (⟨#[116, 114, 97, 100, 101, 109, 97, 114, 107, 61, 50, 49, 50, 50, 32, 115, 99, 97, 114, 111, 110, 61, 48, 49, 54, 49, 32, 103, 117, 105, 108, 115, 105, 110, 103, 108, 114, 105, 103, 104, 116, 61, 50, 48, 51, 65, 32, 111, 101, 61, 48, 49, 53, 51, 32, 122, 99, 97, 114, 111, 110, 61, 48, 49, 55, 69, 32, 89, 100, 105, 101, 114, 101, 115, 105, 115, 61, 48, 49, 55, 56]⟩ : ByteArray)] from rfl) (Reps.one (show Kd.M Kd.string _ _ _ (⟨#[102, 105, 61, 70, 66, 48, 49, 32, 102, 108, 61, 70, 66, 48, 50, 32, 102, 114, 97, 99, 116, 105, 111, 110, 61, 50, 48, 52, 52, 32, 100, 111, 116, 108, 101, 115, 115, 105, 61, 48, 49, 51, 49, 32, 76, 115, 108, 97, 115, 104, 61, 48, 49, 52, 49, 32, 108, 115, 108, 97, 115, 104, 61, 48, 49, 52, 50]⟩ : ByteArray) [.string (⟨#[102, 105, 61, 70, 66, 48, 49, 32, 102, 108, 61, 70, 66, 48, 50, 32, 102, 114, 97, 99, 116, 105, 111, 110, 61, 50, 48, 52, 52, 32, 100, 111, 116, 108, 101, 115, 115, 105, 61, 48, 49, 51, 49, 32, 76, 115, 108, 97, 115, 104, 61, 48, 49, 52, 49, 32, 108, 115, 108, 97, 115, 104, 61, 48, 49, 52, 50]⟩ : ByteArray)] from rfl) (Reps.one (show Kd.M Kd.string _ _ _ (⟨#[98, 114, 101, 118, 101, 61, 48, 50, 68, 56, 32, 99, 97, 114, 111, 110, 61, 48, 50, 67, 55, 32, 100, 111, 116, 97, 99, 99, 101, 110, 116, 61, 48, 50, 68, 57, 32, 104, 117, 110, 103, 97, 114, 117, 109, 108, 97, 117, 116, 61, 48, 50, 68, 68, 32, 111, 103, 111, 110, 101, 107, 61, 48, 50, 68, 66, 32, 114, 105, 110, 103, 61, 48, 50, 68, 65]⟩ : ByteArray) [.string (⟨#[98, 114, 101, 118, 101, 61, 48, 50, 68, 56, 32, 99, 97, 114, 111, 110, 61, 48, 50, 67, 55, 32, 100, 111, 116, 97, 99, 99, 101, 110, 116, 61, 48, 50, 68, 57, 32, 104, 117, 110, 103, 97, 114, 117, 109, 108, 97, 117, 116, 61, 48, 50, 68, 68, 32, 111, 103, 111, 110, 101, 107, 61, 48, 50, 68, 66, 32, 114, 105, 110, 103, 61, 48, 50, 68, 65]⟩ : ByteArray)] from rfl) (Reps.one (show Kd.M Kd.string _ _ _ (⟨#[109, 105, 110, 117, 115, 61, 50, 50, 49, 50, 32, 110, 111, 116, 101, 113, 117, 97, 108, 61, 50, 50, 54, 48, 32, 105, 110, 102, 105, 110, 105, 116, 121, 61, 50, 50, 49, 69, 32, 108, 101, 115, 115, 101, 113, 117, 97, 108, 61, 50, 50, 54, 52, 32, 103, 114, 101, 97, 116, 101, 114, 101, 113, 117, 97, 108, 61, 50, 50, 54, 53, 32, 112, 97, 114, 116, 105, 97, 108, 100, 105, 102, 102, 61, 50, 50, 48, 50]⟩ : ByteArray) [.string (⟨#[109, 105, 110, 117, 115, 61, 50, 50, 49, 50, 32, 110, 111, 116, 101, 113, 117, 97, 108, 61, 50, 50, 54, 48, 32, 105, 110, 102, 105, 110, 105, 116, 121, 61, 50, 50, 49, 69, 32, 108, 101, 115, 115, 101, 113, 117, 97, 108, 61, 50, 50, 54, 52, 32, 103, 114, 101, 97, 116, 101, 114, 101, 113, 117, 97, 108, 61, 50, 50, 54, 53, 32, 112, 97, 114, 116, 105, 97, 108, 100, 105, 102, 102, 61, 50, 50, 48, 50]⟩ : ByteArray)] from rfl) (Reps.one (show Kd.M Kd.string _ _ _ (⟨#[115, 117, 109, 109, 97, 116, 105, 111, 110, 61, 50, 50, 49, 49, 32, 112, 114, 111, 100, 117, 99, 116, 61, 50, 50, 48, 70, 32, 112, 105, 61, 48, 51, 67, 48, 32, 105, 110, 116, 101, 103, 114, 97, 108, 61, 50, 50, 50, 66, 32, 79, 109, 101, 103, 97, 61, 50, 49, 50, 54, 32, 114, 97, 100, 105, 99, 97, 108, 61, 50, 50, 49, 65]⟩ : ByteArray) [.string (⟨#[115, 117, 109, 109, 97, 116, 105, 111, 110, 61, 50, 50, 49, 49, 32, 112, 114, 111, 100, 117, 99, 116, 61, 50, 50, 48, 70, 32, 112, 105, 61, 48, 51, 67, 48, 32, 105, 110, 116, 101, 103, 114, 97, 108, 61, 50, 50, 50, 66, 32, 79, 109, 101, 103, 97, 61, 50, 49, 50, 54, 32, 114, 97, 100, 105, 99, 97, 108, 61, 50, 50, 49, 65]⟩ : ByteArray)] from rfl) (Reps.one (show Kd.M Kd.string _ _ _ (⟨#[97, 112, 112, 114, 111, 120, 101, 113, 117, 97, 108, 61, 50, 50, 52, 56, 32, 68, 101, 108, 116, 97, 61, 50, 50, 48, 54, 32, 108, 111, 122, 101, 110, 103, 101, 61, 50, 53, 67, 65, 32, 97, 112, 112, 108, 101, 61, 70, 56, 70, 70, 32, 65, 108, 112, 104, 97, 61, 48, 51, 57, 49, 32, 66, 101, 116, 97, 61, 48, 51, 57, 50]⟩ : ByteArray) [.string (⟨#[97, 112, 112, 114, 111, 120, 101, 113, 117, 97, 108, 61, 50, 50, 52, 56, 32, 68, 101, 108, 116, 97, 61, 50, 50, 48, 54, 32, 108, 111, 122, 101, 110, 103, 101, 61, 50, 53, 67, 65, 32, 97, 112, 112, 108, 101, 61, 70, 56, 70, 70, 32, 65, 108, 112, 104, 97, 61, 48, 51, 57, 49, 32, 66, 101, 116, 97, 61, 48, 51, 57, 50]⟩ : ByteArray)] from rfl) (Reps.one (show Kd.M Kd.string _ _ _ (⟨#[71, 97, 109, 109, 97, 61, 48, 51, 57, 51, 32, 69, 112, 115, 105, 108, 111, 110, 61, 48, 51, 57, 53, 32, 90, 101, 116, 97, 61, 48, 51, 57, 54, 32, 69, 116, 97, 61, 48, 51, 57, 55, 32, 84, 104, 101, 116, 97, 61, 48, 51, 57, 56, 32, 73, 111, 116, 97, 61, 48, 51, 57, 57]⟩ : ByteArray) [.string (⟨#[71, 97, 109, 109, 97, 61, 48, 51, 57, 51, 32, 69, 112, 115, 105, 108, 111, 110, 61, 48, 51, 57, 53, 32, 90, 101, 116, 97, 61, 48, 51, 57, 54, 32, 69, 116, 97, 61, 48, 51, 57, 55, 32, 84, 104, 101, 116, 97, 61, 48, 51, 57, 56, 32, 73, 111, 116, 97, 61, 48, 51, 57, 57]⟩ : ByteArray)] from rfl) (Reps.one (show Kd.M Kd.string _ _ _ (⟨#[75, 97, 112, 112, 97, 61, 48, 51, 57, 65, 32, 76, 97, 109, 98, 100, 97, 61, 48, 51, 57, 66, 32, 77, 117, 61, 48, 51, 57, 67, 32, 78, 117, 61, 48, 51, 57, 68, 32, 88, 105, 61, 48, 51, 57, 69, 32, 79, 109, 105, 99, 114, 111, 110, 61, 48, 51, 57, 70]⟩ : ByteArray) [.string (⟨#[75, 97, 112, 112, 97, 61, 48, 51, 57, 65, 32, 76, 97, 109, 98, 100, 97, 61, 48, 51, 57, 66, 32, 77, 117, 61, 48, 51, 57, 67, 32, 78, 117, 61, 48, 51, 57, 68, 32, 88, 105, 61, 48, 51, 57, 69, 32, 79, 109, 105, 99, 114, 111, 110, 61, 48, 51, 57, 70]⟩ : ByteArray)] from rfl) (Reps.one (show Kd.M Kd.string _ _ _ (⟨#[80, 105, 61, 48, 51, 65, 48, 32, 82, 104, 111, 61, 48, 51, 65, 49, 32, 83, 105, 103, 109, 97, 61, 48, 51, 65, 51, 32, 84, 97, 117, 61, 48, 51, 65, 52, 32, 85, 112, 115, 105, 108, 111, 110, 61, 48, 51, 65, 53, 32, 80, 104, 105, 61, 48, 51, 65, 54]⟩ : ByteArray) [.string (⟨#[80, 105, 61, 48, 51, 65, 48, 32, 82, 104, 111, 61, 48, 51, 65, 49, 32, 83, 105, 103, 109, 97, 61, 48, 51, 65, 51, 32, 84, 97, 117, 61, 48, 51, 65, 52, 32, 85, 112, 115, 105, 108, 111, 110, 61, 48, 51, 65, 53, 32, 80, 104, 105, 61, 48, 51, 65, 54]⟩ : ByteArray)] from rfl) (Reps.one (show Kd.M Kd.string _ _ _ (⟨#[67, 104, 105, 61, 48, 51, 65, 55, 32, 80, 115, 105, 61, 48, 51, 65, 56, 32, 97, 108, 112, 104, 97, 61, 48, 51, 66, 49, 32, 98, 101, 116, 97, 61, 48, 51, 66, 50, 32, 103, 97, 109, 109, 97, 61, 48, 51, 66, 51, 32, 100, 101, 108, 116, 97, 61, 48, 51, 66, 52]⟩ : ByteArray) [.string (⟨#[67, 104, 105, 61, 48, 51, 65, 55, 32, 80, 115, 105, 61, 48, 51, 65, 56, 32, 97, 108, 112, 104, 97, 61, 48, 51, 66, 49, 32, 98, 101, 116, 97, 61, 48, 51, 66, 50, 32, 103, 97, 109, 109, 97, 61, 48, 51, 66, 51, 32, 100, 101, 108, 116, 97, 61, 48, 51, 66, 52]⟩ : ByteArray)] from rfl) (Reps.one (show Kd.M Kd.string _ _ _ (⟨#[101, 112, 115, 105, 108, 111, 110, 61, 48, 51, 66, 53, 32, 122, 101, 116, 97, 61, 48, 51, 66, 54, 32, 101, 116, 97, 61, 48, 51, 66, 55, 32, 116, 104, 101, 116, 97, 61, 48, 51, 66, 56, 32, 105, 111, 116, 97, 61, 48, 51, 66, 57, 32, 107, 97, 112, 112, 97, 61, 48, 51, 66, 65]⟩ : ByteArray) [.string (⟨#[101, 112, 115, 105, 108, 111, 110, 61, 48, 51, 66, 53, 32, 122, 101, 116, 97, 61, 48, 51, 66, 54, 32, 101, 116, 97, 61, 48, 51, 66, 55, 32, 116, 104, 101, 116, 97, 61, 48, 51, 66, 56, 32, 105, 111, 116, 97, 61, 48, 51, 66, 57, 32, 107, 97, 112, 112, 97, 61, 48, 51, 66, 65]⟩ : ByteArray)] from rfl) (Reps.one (show Kd.M Kd.string _ _ _ (⟨#[108, 97, 109, 98, 100, 97, 61, 48, 51, 66, 66, 32, 110, 117, 61, 48, 51, 66, 68, 32, 120, 105, 61, 48, 51, 66, 69, 32, 111, 109, 105, 99, 114, 111, 110, 61, 48, 51, 66, 70, 32, 114, 104, 111, 61, 48, 51, 67, 49, 32, 115, 105, 103, 109, 97, 49, 61, 48, 51, 67, 50]⟩ : ByteArray) [.string (⟨#[108, 97, 109, 98, 100, 97, 61, 48, 51, 66, 66, 32, 110, 117, 61, 48, 51, 66, 68, 32, 120, 105, 61, 48, 51, 66, 69, 32, 111, 109, 105, 99, 114, 111, 110, 61, 48, 51, 66, 70, 32, 114, 104, 111, 61, 48, 51, 67, 49, 32, 115, 105, 103, 109, 97, 49, 61, 48, 51, 67, 50]⟩ : ByteArray)] from rfl) (Reps.one (show Kd.M Kd.string _ _ _ (⟨#[115, 105, 103, 109, 97, 61, 48, 51, 67, 51, 32, 116, 97, 117, 61, 48, 51, 67, 52, 32, 117, 112, 115, 105, 108, 111, 110, 61, 48, 51, 67, 53, 32, 112, 104, 105, 61, 48, 51, 67, 54, 32, 99, 104, 105, 61, 48, 51, 67, 55, 32, 112, 115, 105, 61, 48, 51, 67, 56]⟩ : ByteArray) [.string (⟨#[115, 105, 103, 109, 97, 61, 48, 51, 67, 51, 32, 116, 97, 117, 61, 48, 51, 67, 52, 32, 117, 112, 115, 105, 108, 111, 110, 61, 48, 51, 67, 53, 32, 112, 104, 105, 61, 48, 51, 67, 54, 32, 99, 104, 105, 61, 48, 51, 67, 55, 32, 112, 115, 105, 61, 48, 51, 67, 56]⟩ : ByteArray)] from rfl) (Reps.one (show Kd.M Kd.string _ _ _ (⟨#[111, 109, 101, 103, 97, 61, 48, 51, 67, 57, 32, 116, 104, 101, 116, 97, 49, 61, 48, 51, 68, 49, 32, 85, 112, 115, 105, 108, 111, 110, 49, 61, 48, 51, 68, 50, 32, 112, 104, 105, 49, 61, 48, 51, 68, 53, 32, 111, 109, 101, 103, 97, 49, 61, 48, 51, 68, 54, 32, 117, 110, 105, 118, 101, 114, 115, 97, 108, 61, 50, 50, 48, 48]⟩ : ByteArray) [.string (⟨#[111, 109, 101, 103, 97, 61, 48, 51, 67, 57, 32, 116, 104, 101, 116, 97, 49, 61, 48, 51, 68, 49, 32, 85, 112, 115, 105, 108, 111, 110, 49, 61, 48, 51, 68, 50, 32, 112, 104, 105, 49, 61, 48, 51, 68, 53, 32, 111, 109, 101, 103, 97, 49, 61, 48, 51, 68, 54, 32, 117, 110, 105, 118, 101, 114, 115, 97, 108, 61, 50, 50, 48, 48]⟩ : ByteArray)] from rfl) (Reps.one (show Kd.M Kd.string _ _ _ (⟨#[101, 120, 105, 115, 116, 101, 110, 116, 105, 97, 108, 61, 50, 50, 48, 51, 32, 115, 117, 99, 104, 116, 104, 97, 116, 61, 50, 50, 48, 66, 32, 97, 115, 116, 101, 114, 105, 115, 107, 109, 97, 116, 104, 61, 50, 50, 49, 55, 32, 99, 111, 110, 103, 114, 117, 101, 110, 116, 61, 50, 50, 52, 53, 32, 116, 104, 101, 114, 101, 102, 111, 114, 101, 61, 50, 50, 51, 52, 32, 112, 101, 114, 112, 101, 110, 100, 105, 99, 117, 108, 97, 114, 61, 50, 50, 65, 53]⟩ : ByteArray) [.string (⟨#[101, 120, 105, 115, 116, 101, 110, 116, 105, 97, 108, 61, 50, 50, 48, 51, 32, 115, 117, 99, 104, 116, 104, 97, 116, 61, 50, 50, 48, 66, 32, 97, 115, 116, 101, 114, 105, 115, 107, 109, 97, 116, 104, 61, 50, 50, 49, 55, 32, 99, 111, 110, 103, 114, 117, 101, 110, 116, 61, 50, 50, 52, 53, 32, 116, 104, 101, 114, 101, 102, 111, 114, 101, 61, 50, 50, 51, 52, 32, 112, 101, 114, 112, 101, 110, 100, 105, 99, 117, 108, 97, 114, 61, 50, 50, 65, 53]⟩ : ByteArray)] from rfl) (Reps.one (show Kd.M Kd.string _ _ _ (⟨#[115, 105, 109, 105, 108, 97, 114, 61, 50, 50, 51, 67, 32, 109, 105, 110, 117, 116, 101, 61, 50, 48, 51, 50, 32, 99, 108, 117, 98, 61, 50, 54, 54, 51, 32, 100, 105, 97, 109, 111, 110, 100, 61, 50, 54, 54, 54, 32, 104, 101, 97, 114, 116, 61, 50, 54, 54, 53, 32, 115, 112, 97, 100, 101, 61, 50, 54, 54, 48]⟩ : ByteArray) [.string (⟨#[115, 105, 109, 105, 108, 97, 114, 61, 50, 50, 51, 67, 32, 109, 105, 110, 117, 116, 101, 61, 50, 48, 51, 50, 32, 99, 108, 117, 98, 61, 50, 54, 54, 51, 32, 100, 105, 97, 109, 111, 110, 100, 61, 50, 54, 54, 54, 32, 104, 101, 97, 114, 116, 61, 50, 54, 54, 53, 32, 115, 112, 97, 100, 101, 61, 50, 54, 54, 48]⟩ : ByteArray)] from rfl) (Reps.one (show Kd.M Kd.string _ _ _ (⟨#[97, 114, 114, 111, 119, 98, 111, 116, 104, 61, 50, 49, 57, 52, 32, 97, 114, 114, 111, 119, 108, 101, 102, 116, 61, 50, 49, 57, 48, 32, 97, 114, 114, 111, 119, 117, 112, 61, 50, 49, 57, 49, 32, 97, 114, 114, 111, 119, 114, 105, 103, 104, 116, 61, 50, 49, 57, 50, 32, 97, 114, 114, 111, 119, 100, 111, 119, 110, 61, 50, 49, 57, 51, 32, 115, 101, 99, 111, 110, 100, 61, 50, 48, 51, 51]⟩ : ByteArray) [.string (⟨#[97, 114, 114, 111, 119, 98, 111, 116, 104, 61, 50, 49, 57, 52, 32, 97, 114, 114, 111, 119, 108, 101, 102, 116, 61, 50, 49, 57, 48, 32, 97, 114, 114, 111, 119, 117, 112, 61, 50, 49, 57, 49, 32, 97, 114, 114, 111, 119, 114, 105, 103, 104, 116, 61, 50, 49, 57, 50, 32, 97, 114, 114, 111, 119, 100, 111, 119, 110, 61, 50, 49, 57, 51, 32, 115, 101, 99, 111, 110, 100, 61, 50, 48, 51, 51]⟩ : ByteArray)] from rfl) (Reps.one (show Kd.M Kd.string _ _ _ (⟨#[112, 114, 111, 112, 111, 114, 116, 105, 111, 110, 97, 108, 61, 50, 50, 49, 68, 32, 101, 113, 117, 105, 118, 97, 108, 101, 110, 99, 101, 61, 50, 50, 54, 49, 32, 97, 108, 101, 112, 104, 61, 50, 49, 51, 53, 32, 73, 102, 114, 97, 107, 116, 117, 114, 61, 50, 49, 49, 49, 32, 82, 102, 114, 97, 107, 116, 117, 114, 61, 50, 49, 49, 67, 32, 119, 101, 105, 101, 114, 115, 116, 114, 97, 115, 115, 61, 50, 49, 49, 56]⟩ : ByteArray) [.string (⟨#[112, 114, 111, 112, 111, 114, 116, 105, 111, 110, 97, 108, 61, 50, 50, 49, 68, 32, 101, 113, 117, 105, 118, 97, 108, 101, 110, 99, 101, 61, 50, 50, 54, 49, 32, 97, 108, 101, 112, 104, 61, 50, 49, 51, 53, 32, 73, 102, 114, 97, 107, 116, 117, 114, 61, 50, 49, 49, 49, 32, 82, 102, 114, 97, 107, 116, 117, 114, 61, 50, 49, 49, 67, 32, 119, 101, 105, 101, 114, 115, 116, 114, 97, 115, 115, 61, 50, 49, 49, 56]⟩ : ByteArray)] from rfl) (Reps.one (show Kd.M Kd.string _ _ _ (⟨#[99, 105, 114, 99, 108, 101, 109, 117, 108, 116, 105, 112, 108, 121, 61, 50, 50, 57, 55, 32, 99, 105, 114, 99, 108, 101, 112, 108, 117, 115, 61, 50, 50, 57, 53, 32, 101, 109, 112, 116, 121, 115, 101, 116, 61, 50, 50, 48, 53, 32, 105, 110, 116, 101, 114, 115, 101, 99, 116, 105, 111, 110, 61, 50, 50, 50, 57, 32, 117, 110, 105, 111, 110, 61, 50, 50, 50, 65, 32, 112, 114, 111, 112, 101, 114, 115, 117, 112, 101, 114, 115, 101, 116, 61, 50, 50, 56, 51]⟩ : ByteArray) [.string (⟨#[99, 105, 114, 99, 108, 101, 109, 117, 108, 116, 105, 112, 108, 121, 61, 50, 50, 57, 55, 32, 99, 105, 114, 99, 108, 101, 112, 108, 117, 115, 61, 50, 50, 57, 53, 32, 101, 109, 112, 116, 121, 115, 101, 116, 61, 50, 50, 48, 53, 32, 105, 110, 116, 101, 114, 115, 101, 99, 116, 105, 111, 110, 61, 50, 50, 50, 57, 32, 117, 110, 105, 111, 110, 61, 50, 50, 50, 65, 32, 112, 114, 111, 112, 101, 114, 115, 117, 112, 101, 114, 115, 101, 116, 61, 50, 50, 56, 51]⟩ : ByteArray)] from rfl) (Reps.one (show Kd.M Kd.string _ _ _ (⟨#[114, 101, 102, 108, 101, 120, 115, 117, 112, 101, 114, 115, 101, 116, 61, 50, 50, 56, 55, 32, 110, 111, 116, 115, 117, 98, 115, 101, 116, 61, 50, 50, 56, 52, 32, 112, 114, 111, 112, 101, 114, 115, 117, 98, 115, 101, 116, 61, 50, 50, 56, 50, 32, 114, 101, 102, 108, 101, 120, 115, 117, 98, 115, 101, 116, 61, 50, 50, 56, 54, 32, 101, 108, 101, 109, 101, 110, 116, 61, 50, 50, 48, 56, 32, 110, 111, 116, 101, 108, 101, 109, 101, 110, 116, 61, 50, 50, 48, 57]⟩ : ByteArray) [.string (⟨#[114, 101, 102, 108, 101, 120, 115, 117, 112, 101, 114, 115, 101, 116, 61, 50, 50, 56, 55, 32, 110, 111, 116, 115, 117, 98, 115, 101, 116, 61, 50, 50, 56, 52, 32, 112, 114, 111, 112, 101, 114, 115, 117, 98, 115, 101, 116, 61, 50, 50, 56, 50, 32, 114, 101, 102, 108, 101, 120, 115, 117, 98, 115, 101, 116, 61, 50, 50, 56, 54, 32, 101, 108, 101, 109, 101, 110, 116, 61, 50, 50, 48, 56, 32, 110, 111, 116, 101, 108, 101, 109, 101, 110, 116, 61, 50, 50, 48, 57]⟩ : ByteArray)] from rfl) (Reps.one (show Kd.M Kd.string _ _ _ (⟨#[97, 110, 103, 108, 101, 61, 50, 50, 50, 48, 32, 103, 114, 97, 100, 105, 101, 110, 116, 61, 50, 50, 48, 55, 32, 100, 111, 116, 109, 97, 116, 104, 61, 50, 50, 67, 53, 32, 108, 111, 103, 105, 99, 97, 108, 97, 110, 100, 61, 50, 50, 50, 55, 32, 108, 111, 103, 105, 99, 97, 108, 111, 114, 61, 50, 50, 50, 56, 32, 97, 114, 114, 111, 119, 100, 98, 108, 98, 111, 116, 104, 61, 50, 49, 68, 52]⟩ : ByteArray) [.string (⟨#[97, 110, 103, 108, 101, 61, 50, 50, 50, 48, 32, 103, 114, 97, 100, 105, 101, 110, 116, 61, 50, 50, 48, 55, 32, 100, 111, 116, 109, 97, 116, 104, 61, 50, 50, 67, 53, 32, 108, 111, 103, 105, 99, 97, 108, 97, 110, 100, 61, 50, 50, 50, 55, 32, 108, 111, 103, 105, 99, 97, 108, 111, 114, 61, 50, 50, 50, 56, 32, 97, 114, 114, 111, 119, 100, 98, 108, 98, 111, 116, 104, 61, 50, 49, 68, 52]⟩ : ByteArray)] from rfl) (Reps.one (show Kd.M Kd.string _ _ _ (⟨#[97, 114, 114, 111, 119, 100, 98, 108, 108, 101, 102, 116, 61, 50, 49, 68, 48, 32, 97, 114, 114, 111, 119, 100, 98, 108, 117, 112, 61, 50, 49, 68, 49, 32, 97, 114, 114, 111, 119, 100, 98, 108, 114, 105, 103, 104, 116, 61, 50, 49, 68, 50, 32, 97, 114, 114, 111, 119, 100, 98, 108, 100, 111, 119, 110, 61, 50, 49, 68, 51, 32, 97, 110, 103, 108, 101, 108, 101, 102, 116, 61, 50, 51, 50, 57, 32, 97, 110, 103, 108, 101, 114, 105, 103, 104, 116, 61, 50, 51, 50, 65]⟩ : ByteArray) [.string (⟨#[97, 114, 114, 111, 119, 100, 98, 108, 108, 101, 102, 116, 61, 50, 49, 68, 48, 32, 97, 114, 114, 111, 119, 100, 98, 108, 117, 112, 61, 50, 49, 68, 49, 32, 97, 114, 114, 111, 119, 100, 98, 108, 114, 105, 103, 104, 116, 61, 50, 49, 68, 50, 32, 97, 114, 114, 111, 119, 100, 98, 108, 100, 111, 119, 110, 61, 50, 49, 68, 51, 32, 97, 110, 103, 108, 101, 108, 101, 102, 116, 61, 50, 51, 50, 57, 32, 97, 110, 103, 108, 101, 114, 105, 103, 104, 116, 61, 50, 51, 50, 65]⟩ : ByteArray)] from rfl) (Reps.one (show Kd.M Kd.string _ _ _ (⟨#[100, 97, 108, 101, 116, 104, 97, 116, 97, 102, 112, 97, 116, 97, 104, 61, 48, 53, 68, 51, 44, 48, 53, 66, 50, 32, 102, 102, 61, 70, 66, 48, 48, 32, 102, 102, 105, 61, 70, 66, 48, 51, 32, 102, 102, 108, 61, 70, 66, 48, 52, 32, 65, 109, 97, 99, 114, 111, 110, 61, 48, 49, 48, 48, 32, 97, 109, 97, 99, 114, 111, 110, 61, 48, 49, 48, 49]⟩ : ByteArray) [.string (⟨#[100, 97, 108, 101, 116, 104, 97, 116, 97, 102, 112, 97, 116, 97, 104, 61, 48, 53, 68, 51, 44, 48, 53, 66, 50, 32, 102, 102, 61, 70, 66, 48, 48, 32, 102, 102, 105, 61, 70, 66, 48, 51, 32, 102, 102, 108, 61, 70, 66, 48, 52, 32, 65, 109, 97, 99, 114, 111, 110, 61, 48, 49, 48, 48, 32, 97, 109, 97, 99, 114, 111, 110, 61, 48, 49, 48, 49]⟩ : ByteArray)] from rfl) (Reps.one (show Kd.M Kd.string _ _ _ (⟨#[65, 98, 114, 101, 118, 101, 61, 48, 49, 48, 50, 32, 97, 98, 114, 101, 118, 101, 61, 48, 49, 48, 51, 32, 76, 99, 111, 109, 109, 97, 97, 99, 99, 101, 110, 116, 61, 48, 49, 51, 66]⟩ : ByteArray) [.string (⟨#[65, 98, 114, 101, 118, 101, 61, 48, 49, 48, 50, 32, 97, 98, 114, 101, 118, 101, 61, 48, 49, 48, 51, 32, 76, 99, 111, 109, 109, 97, 97, 99, 99, 101, 110, 116, 61, 48, 49, 51, 66]⟩ : ByteArray)] from rfl) (Reps.none _ _))))))))))))))))))))))))))))))); intro v113 w1 ho2 hb hg_ hnew_; clear hg_ hnew_; (first | rw [← Ny112.out] at ho2 | (simp only [Int.reduceToNat] at ho2; rw [← Ny112.out] at ho2)); have n0_ := Aside0.mk (Kd.R_lower ho2 (below_size (by repeat (first | (with_reducible first | exact HB.out | apply below_alloc | apply pw_below_drewN | apply below_drew1) | exact HB.out)))); have n1_ := Aside0.mk (below_step (by repeat (first | (with_reducible first | exact HB.out | apply below_alloc | apply pw_below_drewN | apply below_drew1) | exact HB.out)) hb); clear HB; have HO114 := n0_; have HB := n1_; clear n0_ n1_; clear hb ho2))
  go_ret
  exact ⟨_, by first | rfl | (simp [errW_none, errW_some] <;> rfl) | (simp [*, errW_none, errW_some] <;> rfl), by (with_reducible repeat (first | apply Kd.R_alloc | apply Kd.R_drewN | apply Kd.R_drew)); exact HO114.out, by repeat (first | (with_reducible first | exact HB.out | apply below_alloc | apply pw_below_drewN | apply below_drew1) | exact HB.out)⟩
end Go.Proofs.YtniehnkiicliaaaDoor.M
end
section
/- Laid by this session's program hbprint.py out of the translation: the function hornbook/glyph.list and its contract. -/
namespace Go.Proofs.YtniehnkiicliaaaDoor.M
open Go.RowKit Go.Proofs.YtniehnkiicliaaaDoorW.PrintWords Go.Proofs.YtniehnkiicliaaaDoorW.PrintLast Go.Proofs.YtniehnkiicliaaaDoorW.PrintMore
attribute [local go_sem] max2_int min2_int max_two min_two max_three min_three max_four min_four
set_option linter.unusedVariables false
set_option linter.unusedSimpArgs false
def glyph_list.f (k : Nat)  : Option (ByteArray) := (glyph_part1.f).bind fun t115 => ((glyph_part2.f).bind fun t118 => ((slices_Concat_string_string.f k (([t115, t118] : List (List ByteArray)))).bind fun t124 => ((strings_Join.f t124 (⟨#[32]⟩ : ByteArray)).bind fun t127 => (if 1 + t127.size ≤ 9223372036854775807 then (if ((⟨#[32]⟩ : ByteArray) ++ t127).size + 1 ≤ 9223372036854775807 then (some (((⟨#[32]⟩ : ByteArray) ++ t127) ++ (⟨#[32]⟩ : ByteArray))) else (none)) else (none)))))
theorem glyph_list.mono : ∀ k, LeO (glyph_list.f k ) (glyph_list.f (k + 1) ) := by
  intro  k
  unfold glyph_list.f
  repeat' first
      | (with_reducible exact slices_Concat_string_string.mono _ _)
      | (with_reducible exact LeO.refl _)
      | (with_reducible exact LeO.none _)
      | (with_reducible refine LeO.ite ?_ ?_)
      | (with_reducible refine LeO.bind ?_ (fun _ => ?_))
      | exact slices_Concat_string_string.mono _ _
      | exact LeO.none _
      | refine LeO.ite ?_ ?_
      | refine LeO.bind ?_ (fun _ => ?_)
set_option maxHeartbeats 8000000 in
set_option maxRecDepth 100000 in
theorem glyph_list.calls (k : Nat)  (r : ByteArray) (w : World) (h : glyph_list.f k  = some r) :
    Calls Tryd.prog 38 #[] w fun e w' => e = .returned (.string r) ∧ Below w.heap.size w w' := by
  have HB := Aside0.mk (Below.refl w.heap.size w)
  have H : ((glyph_part1.f).bind fun t115 => ((glyph_part2.f).bind fun t118 => ((slices_Concat_string_string.f k (([t115, t118] : List (List ByteArray)))).bind fun t124 => ((strings_Join.f t124 (⟨#[32]⟩ : ByteArray)).bind fun t127 => (if 1 + t127.size ≤ 9223372036854775807 then (if ((⟨#[32]⟩ : ByteArray) ++ t127).size + 1 ≤ 9223372036854775807 then (some (((⟨#[32]⟩ : ByteArray) ++ t127) ++ (⟨#[32]⟩ : ByteArray))) else (none)) else (none)))))) = some r := h
  clear h
  replace H := Option.bind_eq_some_iff.mp H
  obtain ⟨t115, A10, H⟩ := H
  replace H : ((glyph_part2.f).bind fun t118 => ((slices_Concat_string_string.f k (([t115, t118] : List (List ByteArray)))).bind fun t124 => ((strings_Join.f t124 (⟨#[32]⟩ : ByteArray)).bind fun t127 => (if 1 + t127.size ≤ 9223372036854775807 then (if ((⟨#[32]⟩ : ByteArray) ++ t127).size + 1 ≤ 9223372036854775807 then (some (((⟨#[32]⟩ : ByteArray) ++ t127) ++ (⟨#[32]⟩ : ByteArray))) else (none)) else (none))))) = some r := H
  have A1 := Aside0.mk A10
  clear A10
  replace H := Option.bind_eq_some_iff.mp H
  obtain ⟨t118, A20, H⟩ := H
  replace H : ((slices_Concat_string_string.f k (([t115, t118] : List (List ByteArray)))).bind fun t124 => ((strings_Join.f t124 (⟨#[32]⟩ : ByteArray)).bind fun t127 => (if 1 + t127.size ≤ 9223372036854775807 then (if ((⟨#[32]⟩ : ByteArray) ++ t127).size + 1 ≤ 9223372036854775807 then (some (((⟨#[32]⟩ : ByteArray) ++ t127) ++ (⟨#[32]⟩ : ByteArray))) else (none)) else (none)))) = some r := H
  have A2 := Aside0.mk A20
  clear A20
  obtain ⟨y121, hy121⟩ : ∃ y_ : List (List ByteArray), y_ = (([t115, t118] : List (List ByteArray))) := ⟨_, rfl⟩
  replace H : ((slices_Concat_string_string.f k y121).bind fun t124 => ((strings_Join.f t124 (⟨#[32]⟩ : ByteArray)).bind fun t127 => (if 1 + t127.size ≤ 9223372036854775807 then (if ((⟨#[32]⟩ : ByteArray) ++ t127).size + 1 ≤ 9223372036854775807 then (some (((⟨#[32]⟩ : ByteArray) ++ t127) ++ (⟨#[32]⟩ : ByteArray))) else (none)) else (none)))) = some r := by first | (rw [hy121]; with_reducible exact H) | (have H2_ := (Option.bind_some _ _).symm.trans H; rw [hy121]; with_reducible exact H2_) | (have H2_ := (Option.bind_some _ _).symm.trans H; with_reducible exact H2_) | with_reducible exact H | (rw [hy121]; exact H) | exact H
  have Ny121 := Aside0.mk hy121
  clear hy121
  replace H := Option.bind_eq_some_iff.mp H
  obtain ⟨t124, A30, H⟩ := H
  replace H : ((strings_Join.f t124 (⟨#[32]⟩ : ByteArray)).bind fun t127 => (if 1 + t127.size ≤ 9223372036854775807 then (if ((⟨#[32]⟩ : ByteArray) ++ t127).size + 1 ≤ 9223372036854775807 then (some (((⟨#[32]⟩ : ByteArray) ++ t127) ++ (⟨#[32]⟩ : ByteArray))) else (none)) else (none))) = some r := H
  have A3 := Aside0.mk A30
  clear A30
  replace H := Option.bind_eq_some_iff.mp H
  obtain ⟨t127, A40, H⟩ := H
  replace H : (if 1 + t127.size ≤ 9223372036854775807 then (if ((⟨#[32]⟩ : ByteArray) ++ t127).size + 1 ≤ 9223372036854775807 then (some (((⟨#[32]⟩ : ByteArray) ++ t127) ++ (⟨#[32]⟩ : ByteArray))) else (none)) else (none)) = some r := H
  have A4 := Aside0.mk A40
  clear A40
  by_cases c5 : 1 + t127.size ≤ 9223372036854775807
  · rw [if_pos c5] at H
    have c5b0 := eq_true c5
    have c5b1 : decide (1 + t127.size ≤ 9223372036854775807) = true := decide_eq_true c5
    try have c5b2 : (9223372036854775807 < 1 + t127.size) = False := eq_false (Nat.not_lt.2 c5)
    by_cases c6 : ((⟨#[32]⟩ : ByteArray) ++ t127).size + 1 ≤ 9223372036854775807
    · rw [if_pos c6] at H
      have c6b0 := eq_true c6
      have c6b1 : decide (((⟨#[32]⟩ : ByteArray) ++ t127).size + 1 ≤ 9223372036854775807) = true := decide_eq_true c6
      try have c6b2 : (9223372036854775807 < ((⟨#[32]⟩ : ByteArray) ++ t127).size + 1) = False := eq_false (Nat.not_lt.2 c6)
      try have c6b9 : (9223372036854775807 < (1 + t127.size) + 1) = False := eq_false (Nat.not_lt.2 (by have h_ := c6; (repeat rw [ByteArray.size_append] at h_); exact h_))
      obtain rfl := Option.some.inj H
      go_enter Tryd.func38, Tryd.ntmps38
      go_wp2_with (first | ((with_reducible refine gate_callee (f := 58) rfl ?_); refine goesL_ (some 1) rfl rfl Tryd.func58 (by kernel_rfl) rfl #[] rfl (by (try simp only [List.map_toArray, List.map_cons, List.map_nil]); first | done | rfl | (simp only [List.length_drop, List.length_take]; rfl)) ?_; (with_reducible refine (glyph_part1.calls  t115 _ A1.out).mono ?_); rintro e w7 ⟨v116, rfl, ho0, hb⟩; refine ⟨_, rfl, ?_⟩; have n0_ := Aside0.mk (Kd.R_lower ho0 (below_size (by repeat (first | (with_reducible first | exact HB.out | apply below_alloc | apply pw_below_drewN | apply below_drew1) | exact HB.out)))); have n1_ := Aside0.mk (below_step (by repeat (first | (with_reducible first | exact HB.out | apply below_alloc | apply pw_below_drewN | apply below_drew1) | exact HB.out)) hb); clear HB; have HO117 := n0_; have HB := n1_; clear n0_ n1_; (try clear hb); (try clear hb2); (try clear hk); (try clear hi); (try clear ho0)) | ((with_reducible refine gate_callee (f := 59) rfl ?_); refine goesL_ (some 2) rfl rfl Tryd.func59 (by kernel_rfl) rfl #[] rfl (by (try simp only [List.map_toArray, List.map_cons, List.map_nil]); first | done | rfl | (simp only [List.length_drop, List.length_take]; rfl)) ?_; (with_reducible refine (glyph_part2.calls  t118 _ A2.out).mono ?_); rintro e w8 ⟨v119, rfl, ho0, hb⟩; refine ⟨_, rfl, ?_⟩; have n0_ := Aside0.mk (Kd.R_elder' (by (with_reducible repeat (first | apply Kd.R_alloc | apply Kd.R_drewN | apply Kd.R_drew)); exact HO117.out) (Kd.R_base ho0) hb); have n1_ := Aside0.mk (Kd.R_lower (Kd.R_new' ho0 (Kd.R_lt (by (with_reducible repeat (first | apply Kd.R_alloc | apply Kd.R_drewN | apply Kd.R_drew)); exact HO117.out))) (below_size (by repeat (first | (with_reducible first | exact HB.out | apply below_alloc | apply pw_below_drewN | apply below_drew1) | exact HB.out)))); have n2_ := Aside0.mk (below_step (by repeat (first | (with_reducible first | exact HB.out | apply below_alloc | apply pw_below_drewN | apply below_drew1) | exact HB.out)) hb); clear HO117; clear HB; have HO117 := n0_; have HO120 := n1_; have HB := n2_; clear n0_ n1_ n2_; (try clear hb); (try clear hb2); (try clear hk); (try clear hi); (try clear ho0); obtain ⟨Ao9, co9, eo9⟩ := Kd.R_slice HO117.out; subst eo9; obtain ⟨Ao10, co10, eo10⟩ := Kd.R_slice HO120.out; subst eo10) | ((with_reducible refine gate_dst (N := 3) rfl ?_); refine Kd.N_lit (Kd.slice 9 Kd.string) _ 28 ?hg (N' := 3) ?hd (xs := ([t115, t118] : List (List ByteArray))) (inner := [.slice Ao9 t115.length co9, .slice Ao10 t118.length co10]) (ok := (fun _ => True)) (okp := (fun _ => True)) ?hr ?hp (fun _ hk => hk) ((show ∀ k_, w8.heap.size ≤ k_ → (fun _ => True) k_ from fun k_ hk => trivial) _ (Nat.le_refl _)) (Below.refl _ _) (Nat.le_refl _) (by simp) ?_; (case hd => rfl); (case hg => rfl); (case hr => first | (go_simp; done) | (go_simp; rfl)); (case hp => exact (Reps.one (show Kd.FK (Kd.slice 9 Kd.string) _ _ t115 [.slice Ao9 t115.length co9] from (Kd.FK_slice_mk (Kd.R_reads' (Kd.R_mono (ok' := (fun _ => True)) (HO117.out) (fun k_ hk => trivial))).2.1 (Kd.R_F (Kd.R_mono (ok' := (fun _ => True)) (HO117.out) (fun k_ hk => trivial))))) (Reps.one (show Kd.FK (Kd.slice 9 Kd.string) _ _ t118 [.slice Ao10 t118.length co10] from (Kd.FK_slice_mk (Kd.R_reads' (Kd.R_mono (ok' := (fun _ => True)) (HO120.out) (fun k_ hk => trivial))).2.1 (Kd.R_F (Kd.R_mono (ok' := (fun _ => True)) (HO120.out) (fun k_ hk => trivial))))) (Reps.none _ _)))); intro v122 w11 ho12 hb hg_ hnew_; clear hg_ hnew_; (first | rw [← Ny121.out] at ho12 | (simp only [Int.reduceToNat] at ho12; rw [← Ny121.out] at ho12)); have n0_ := Aside0.mk (Kd.N_lower ho12 (below_size (by repeat (first | (with_reducible first | exact HB.out | apply below_alloc | apply pw_below_drewN | apply below_drew1) | exact HB.out)))); have n1_ := Aside0.mk (below_step (by repeat (first | (with_reducible first | exact HB.out | apply below_alloc | apply pw_below_drewN | apply below_drew1) | exact HB.out)) hb); clear HB; clear HO117; clear HO120; have HO123 := n0_; have HB := n1_; clear n0_ n1_; clear hb ho12; obtain ⟨Ao13, co13, eo13⟩ := Kd.N_slice HO123.out; subst eo13) | ((with_reducible refine gate_callee (f := 57) rfl ?_); refine goesL_ (some 4) rfl rfl Tryd.func57 (by kernel_rfl) rfl #[.slice Ao13 y121.length co13] rfl (by (try simp only [List.map_toArray, List.map_cons, List.map_nil]); first | done | rfl | (simp only [List.length_drop, List.length_take]; rfl)) ?_; (with_reducible refine (slices_Concat_string_string.calls k _ _ y121 t124 _ ?side1 ?side2 A3.out).mono ?_); (case side1 => repeat (first | exact (Kd.N_reads' HO123.out).2.2 | (with_reducible refine Kd.C_alloc ?_ _) | (with_reducible refine Kd.C_drewN ?_ _) | (with_reducible refine Kd.C_drew ?_))); (case side2 => exact (Kd.N_reads' HO123.out).2.1); rintro e w14 ⟨v125, rfl, ho0, hb⟩; refine ⟨_, rfl, ?_⟩; have n0_ := Aside0.mk (Kd.N_elder' (by (with_reducible repeat (first | apply Kd.N_alloc | apply Kd.N_drewN | apply Kd.N_drew)); exact HO123.out) (Kd.R_base ho0) hb); have n1_ := Aside0.mk (Kd.R_lower ho0 (below_size (by repeat (first | (with_reducible first | exact HB.out | apply below_alloc | apply pw_below_drewN | apply below_drew1) | exact HB.out)))); have n2_ := Aside0.mk (below_step (by repeat (first | (with_reducible first | exact HB.out | apply below_alloc | apply pw_below_drewN | apply below_drew1) | exact HB.out)) hb); clear HO123; clear HB; have HO123 := n0_; have HO126 := n1_; have HB := n2_; clear n0_ n1_ n2_; (try clear hb); (try clear hb2); (try clear hk); (try clear hi); (try clear ho0); obtain ⟨Ao15, co15, eo15⟩ := Kd.R_slice HO126.out; subst eo15) | ((with_reducible refine gate_callee (f := 56) rfl ?_); refine goesL_ (some 5) rfl rfl Tryd.func56 (by kernel_rfl) rfl #[.slice Ao15 t124.length co15, .string (⟨#[32]⟩ : ByteArray)] rfl (by (try simp only [List.map_toArray, List.map_cons, List.map_nil]); first | done | rfl | (simp only [List.length_drop, List.length_take]; rfl)) ?_; (with_reducible refine (strings_Join.calls _ _ t124 (⟨#[32]⟩ : ByteArray) t127 _ ?side1 ?side2 A4.out).mono ?_); (case side1 => repeat (first | exact (Kd.R_reads' HO126.out).2.2 | (with_reducible refine Kd.C_alloc ?_ _) | (with_reducible refine Kd.C_drewN ?_ _) | (with_reducible refine Kd.C_drew ?_))); (case side2 => exact (Kd.R_reads' HO126.out).2.1); rintro e w16 ⟨rfl, hb⟩; refine ⟨_, rfl, ?_⟩; have n0_ := Aside0.mk (Kd.N_below (by (with_reducible repeat (first | apply Kd.N_alloc | apply Kd.N_drewN | apply Kd.N_drew)); exact HO123.out) hb); have n1_ := Aside0.mk (Kd.R_below (by (with_reducible repeat (first | apply Kd.R_alloc | apply Kd.R_drewN | apply Kd.R_drew)); exact HO126.out) hb); have n2_ := Aside0.mk (below_step (by repeat (first | (with_reducible first | exact HB.out | apply below_alloc | apply pw_below_drewN | apply below_drew1) | exact HB.out)) hb); clear HO123; clear HO126; clear HB; have HO123 := n0_; have HO126 := n1_; have HB := n2_; clear n0_ n1_ n2_; (try clear hb); (try clear hb2); (try clear hk); (try clear hi)))
      go_ret
      exact ⟨by first | rfl | (simp [errW_none, errW_some] <;> rfl) | (simp [*, errW_none, errW_some] <;> rfl), by repeat (first | (with_reducible first | exact HB.out | apply below_alloc | apply pw_below_drewN | apply below_drew1) | exact HB.out)⟩
    · rw [if_neg c6] at H
      exact absurd H (by simp)
  · rw [if_neg c5] at H
    exact absurd H (by simp)
end Go.Proofs.YtniehnkiicliaaaDoor.M
end
section
namespace Go.Proofs.YtniehnkiicliaaaDoor.M
open Go.RowKit Go.Proofs.YtniehnkiicliaaaDoorW.PrintWords
set_option linter.unusedVariables false
def isAscii (l : List UInt8) : Bool := l.all fun b => decide (b.toNat < 128)
def fieldsB (a0 : ByteArray) : List ByteArray := (Lib.fields a0.data.toList).map fun l => ⟨l.toArray⟩
def strings_Fields.f (a0 : ByteArray) : Option (List ByteArray) := if a0.size < 4294967281 ∧ isAscii a0.data.toList = true ∧ (fieldsB a0).length ≤ 8796093022208 then some (fieldsB a0) else none
theorem strings_Fields.calls (a0 : ByteArray) (r : List ByteArray) (w : World) (hG : GW w) (h : strings_Fields.f a0 = some r) :
    Calls Tryd.prog 42 #[.string a0] w fun e w' => ∃ v0_ : Value, e = .returned (v0_) ∧ Kd.R Kd.string 9 w' w.heap.size (fun _ => True) v0_ r ∧ Below w.heap.size w w' := by
  unfold strings_Fields.f at h
  split at h
  case isFalse => cases h
  rename_i hb
  obtain rfl := Option.some.inj h
  obtain ⟨hb1, hb2, hb3⟩ := hb
  have hl : (fieldsB a0).length = (Lib.fields a0.data.toList).length := by simp [fieldsB]
  refine (Tryd.strings_Fields a0 w hb1 ?_ hG.space).mono ?_
  · intro j b hj
    have := List.all_eq_true.1 hb2 b (List.mem_of_getElem? hj)
    simpa using this
  · rintro e w' ⟨rfl, rfl⟩
    exact ⟨_, rfl, strings_fresh w (fieldsB a0) _ _ _ hl (Nat.le_refl _) (by unfold maxLen; omega) (by simp) (by rw [List.take_of_length_le (by simp)]; simp [fieldsB]), below_alloc (Below.refl _ _) _⟩
end Go.Proofs.YtniehnkiicliaaaDoor.M
end
section
/- Laid by this session's program hbprint.py out of the translation: the function hornbook/glyph.Names and its contract. -/
namespace Go.Proofs.YtniehnkiicliaaaDoor.M
open Go.RowKit Go.Proofs.YtniehnkiicliaaaDoorW.PrintWords Go.Proofs.YtniehnkiicliaaaDoorW.PrintLast Go.Proofs.YtniehnkiicliaaaDoorW.PrintMore
attribute [local go_sem] max2_int min2_int max_two min_two max_three min_three max_four min_four
set_option linter.unusedVariables false
set_option linter.unusedSimpArgs false
def glyph_Names.l0 : Nat → List ByteArray → List ByteArray → Int → Int → Option (List ByteArray)
  | 0, _, _, _, _ => none
  | k + 1, x1, x8, x9, x10 => if x10 < x9 then (if 0 ≤ x10 then (if x10 < (x8.length : Int) then ((strings_Cut.f (rdOf ByteArray.empty x8 x10) (⟨#[61]⟩ : ByteArray)).bind fun bt156 => (if x1.length < 8796093022208 then (glyph_Names.l0 k (x1 ++ [bt156.1]) x8 x9 (wrap64 (x10 + 1))) else (none))) else (none)) else (none)) else (some x1)
def glyph_Names.f (k : Nat)  : Option (List ByteArray) := (glyph_list.f k).bind fun t151 => ((strings_Fields.f t151).bind fun t152 => (glyph_Names.l0 k ([] : List ByteArray) t152 (t152.length : Int) 0))
theorem glyph_Names.mono_l : ∀ k, (∀ y0 y1 y2 y3, LeO (glyph_Names.l0 k y0 y1 y2 y3) (glyph_Names.l0 (k + 1) y0 y1 y2 y3))
  | 0 => fun _ _ _ _ r h => by simp [glyph_Names.l0] at h
  | k + 1 => by
    have ih0 := glyph_Names.mono_l k
    · intro y0 y1 y2 y3
      unfold glyph_Names.l0
      repeat' first
      | (with_reducible exact ih0 _ _ _ _)
      | (with_reducible exact glyph_list.mono _)
      | (with_reducible exact LeO.refl _)
      | (with_reducible exact LeO.none _)
      | (with_reducible refine LeO.ite ?_ ?_)
      | (with_reducible refine LeO.bind ?_ (fun _ => ?_))
      | exact ih0 _ _ _ _
      | exact glyph_list.mono _
      | exact LeO.none _
      | refine LeO.ite ?_ ?_
      | refine LeO.bind ?_ (fun _ => ?_)
theorem glyph_Names.mono : ∀ k, LeO (glyph_Names.f k ) (glyph_Names.f (k + 1) ) := by
  intro  k
  have ih0 := glyph_Names.mono_l k
  unfold glyph_Names.f
  repeat' first
      | (with_reducible exact ih0 _ _ _ _)
      | (with_reducible exact glyph_list.mono _)
      | (with_reducible exact LeO.refl _)
      | (with_reducible exact LeO.none _)
      | (with_reducible refine LeO.ite ?_ ?_)
      | (with_reducible refine LeO.bind ?_ (fun _ => ?_))
      | exact ih0 _ _ _ _
      | exact glyph_list.mono _
      | exact LeO.none _
      | refine LeO.ite ?_ ?_
      | refine LeO.bind ?_ (fun _ => ?_)
set_option maxHeartbeats 8000000 in
set_option maxRecDepth 100000 in
theorem glyph_Names.calls (k : Nat)  (r : List ByteArray) (w : World) (hG : GW w) (h : glyph_Names.f k  = some r) :
    Calls Tryd.prog 27 #[] w fun e w' => ∃ v0_ : Value, e = .returned (v0_) ∧ Kd.R Kd.string 9 w' w.heap.size (fun _ => True) v0_ r ∧ Below w.heap.size w w' := by
  have HG := Aside0.mk hG
  clear hG
  have HB := Aside0.mk (Below.refl w.heap.size w)
  have H : ((glyph_list.f k).bind fun t151 => ((strings_Fields.f t151).bind fun t152 => (glyph_Names.l0 k ([] : List ByteArray) t152 (t152.length : Int) 0))) = some r := h
  clear h
  replace H := Option.bind_eq_some_iff.mp H
  obtain ⟨t151, A10, H⟩ := H
  replace H : ((strings_Fields.f t151).bind fun t152 => (glyph_Names.l0 k ([] : List ByteArray) t152 (t152.length : Int) 0)) = some r := H
  have A1 := Aside0.mk A10
  clear A10
  replace H := Option.bind_eq_some_iff.mp H
  obtain ⟨t152, A20, H⟩ := H
  replace H : (glyph_Names.l0 k ([] : List ByteArray) t152 (t152.length : Int) 0) = some r := H
  have A2 := Aside0.mk A20
  clear A20
  have H' := Aside0.mk H
  clear H
  go_enter Tryd.func27, Tryd.ntmps27
  go_wp2_with (first | ((with_reducible refine gate_callee (f := 38) rfl ?_); refine goesL_ (some 7) rfl rfl Tryd.func38 (by kernel_rfl) rfl #[] rfl (by (try simp only [List.map_toArray, List.map_cons, List.map_nil]); first | done | rfl | (simp only [List.length_drop, List.length_take]; rfl)) ?_; (with_reducible refine (glyph_list.calls k  t151 _ A1.out).mono ?_); rintro e w3 ⟨rfl, hb⟩; refine ⟨_, rfl, ?_⟩; have n0_ := Aside0.mk (below_step (by repeat (first | (with_reducible first | exact HB.out | apply below_alloc | apply pw_below_drewN | apply below_drew1) | exact HB.out)) hb); clear HB; have HB := n0_; clear n0_; (try clear hb); (try clear hb2); (try clear hk); (try clear hi)) | ((with_reducible refine gate_callee (f := 42) rfl ?_); refine goesL_ (some 8) rfl rfl Tryd.func42 (by kernel_rfl) rfl #[.string t151] rfl (by (try simp only [List.map_toArray, List.map_cons, List.map_nil]); first | done | rfl | (simp only [List.length_drop, List.length_take]; rfl)) ?_; (with_reducible refine (strings_Fields.calls t151 t152 _ ?side1 A2.out).mono ?_); (case side1 => exact GW.below (by repeat (first | (with_reducible first | exact HB.out | apply below_alloc | apply pw_below_drewN | apply below_drew1) | exact HB.out)) HG.out); rintro e w4 ⟨v153, rfl, ho0, hb⟩; refine ⟨_, rfl, ?_⟩; have n0_ := Aside0.mk (Kd.R_lower ho0 (below_size (by repeat (first | (with_reducible first | exact HB.out | apply below_alloc | apply pw_below_drewN | apply below_drew1) | exact HB.out)))); have n1_ := Aside0.mk (below_step (by repeat (first | (with_reducible first | exact HB.out | apply below_alloc | apply pw_below_drewN | apply below_drew1) | exact HB.out)) hb); clear HB; have HO154 := n0_; have HB := n1_; clear n0_ n1_; (try clear hb); (try clear hb2); (try clear hk); (try clear hi); (try clear ho0); obtain ⟨Ao5, co5, eo5⟩ := Kd.R_slice HO154.out; subst eo5))
  go_loopg [1, 10] k (fun kq v1 v10 w' => ∃ (x1_1 : List ByteArray) (x10_1 : Int), v10 = .int .i64 x10_1 ∧ Aside0 (glyph_Names.l0 kq x1_1 t152 (t152.length : Int) x10_1 = some r) ∧ Aside0 (kq ≤ k) ∧ Aside0 (Kd.R Kd.string 9 w' w.heap.size (fun k_ => some k_ ≠ ((.slice Ao5 t152.length co5) : Value).ownBlock) v1 x1_1) ∧ Aside0 (Kd.R Kd.string 9 w' w.heap.size (fun k_ => some k_ ≠ (v1 : Value).ownBlock) (.slice Ao5 t152.length co5) t152) ∧ Aside0 (Below w.heap.size w w'))
  case atStart => exact ⟨(([] : List ByteArray)), (0), (by first | rfl | (simp; done) | (simp [*]; done)), H', ⟨Nat.le_refl _⟩, ⟨by first | exact Kd.R_nil _ _ _ _ _ | exact Kd.N_nil _ _ _ _ _ | exact Kd.V_nil _ _ _ _ _ | exact Kd.Q_nil _ _ _ _ _ | exact Kd.S_nil _ _ _ _ _⟩, ⟨by (with_reducible repeat (first | apply Kd.R_alloc | apply Kd.R_drewN | apply Kd.R_drew)); exact Kd.R_mono HO154.out (fun _ hk => (by simp [Value.ownBlock]))⟩, ⟨by repeat (first | (with_reducible first | exact HB.out | apply below_alloc | apply pw_below_drewN | apply below_drew1) | exact HB.out)⟩⟩
  case round =>
    clear H'
    try clear c2
    try clear p2
    try clear c3
    try clear c4
    obtain ⟨x1_1, x10_1, rfl, HA, HK1, HO_1, HO_8, HB⟩ := hrel
    cases gk with
    | zero => exact absurd HA.out (by simp [glyph_Names.l0])
    | succ k1 =>
      have H := HA.out
      clear HA
      simp only [glyph_Names.l0] at H
      by_cases c6 : x10_1 < (t152.length : Int)
      · rw [if_pos c6] at H
        have c6b0 : decide (x10_1 < (t152.length : Int)) = true := decide_eq_true c6
        clear c6
        by_cases c7 : 0 ≤ x10_1
        · rw [if_pos c7] at H
          have c7b0 : decide (0 ≤ x10_1) = true := decide_eq_true c7
          clear c7
          by_cases c8 : x10_1 < (t152.length : Int)
          · rw [if_pos c8] at H
            have c8b0 : decide (x10_1 < (t152.length : Int)) = true := decide_eq_true c8
            clear c8
            replace H := Option.bind_eq_some_iff.mp H
            obtain ⟨⟨t156, t157, t158⟩, A90, H⟩ := H
            replace H : (if x1_1.length < 8796093022208 then (glyph_Names.l0 k1 (x1_1 ++ [t156]) t152 (t152.length : Int) (wrap64 (x10_1 + 1))) else (none)) = some r := H
            have A9 := Aside0.mk A90
            clear A90
            by_cases c10 : x1_1.length < 8796093022208
            · rw [if_pos c10] at H
              have LMc10 := Aside0.mk c10
              clear c10
              obtain ⟨y159, hy159⟩ : ∃ y_ : List ByteArray, y_ = (x1_1 ++ [t156]) := ⟨_, rfl⟩
              replace H : (glyph_Names.l0 k1 y159 t152 (t152.length : Int) (wrap64 (x10_1 + 1))) = some r := by first | (rw [hy159]; with_reducible exact H) | (have H2_ := (Option.bind_some _ _).symm.trans H; rw [hy159]; with_reducible exact H2_) | (have H2_ := (Option.bind_some _ _).symm.trans H; with_reducible exact H2_) | with_reducible exact H | (rw [hy159]; exact H) | exact H
              have Ny159 := Aside0.mk hy159
              clear hy159
              have H' := Aside0.mk H
              clear H
              have p155 : 0 ≤ (x10_1 : Int) := of_decide_eq_true (by first | (with_reducible assumption) | assumption)
              have q155 : x10_1 < (t152.length : Int) := of_decide_eq_true (by first | (with_reducible assumption) | assumption)
              obtain ⟨ad155, e155, hx155_0⟩ := Kd.at_string (Kd.R_reads' HO_8.out).2.2 x10_1 p155 q155
              cases e155
              replace p155 := eq_true p155
              replace q155 := eq_true q155
              go_wp2_with (first | ((with_reducible refine gate_callee (f := 37) rfl ?_); refine goesL_ (some 16) rfl rfl Tryd.func37 (by kernel_rfl) rfl #[.string (rdOf ByteArray.empty t152 x10_1), .string (⟨#[61]⟩ : ByteArray)] rfl (by (try simp only [List.map_toArray, List.map_cons, List.map_nil]); first | done | rfl | (simp only [List.length_drop, List.length_take]; rfl)) ?_; (with_reducible refine (strings_Cut.calls (rdOf ByteArray.empty t152 x10_1) (⟨#[61]⟩ : ByteArray) t156 t157 t158 _ ?side1 A9.out).mono ?_); (case side1 => exact GW.below (by repeat (first | (with_reducible first | exact HB.out | apply below_alloc | apply pw_below_drewN | apply below_drew1) | exact HB.out)) HG.out); rintro e w11 ⟨rfl, hb⟩; refine ⟨_, rfl, ?_⟩; have n0_ := Aside0.mk (Kd.R_below (by (with_reducible repeat (first | apply Kd.R_alloc | apply Kd.R_drewN | apply Kd.R_drew)); exact HO_1.out) hb); have n1_ := Aside0.mk (Kd.R_below (by (with_reducible repeat (first | apply Kd.R_alloc | apply Kd.R_drewN | apply Kd.R_drew)); exact HO_8.out) hb); have n2_ := Aside0.mk (below_step (by repeat (first | (with_reducible first | exact HB.out | apply below_alloc | apply pw_below_drewN | apply below_drew1) | exact HB.out)) hb); clear HO_1; clear HO_8; clear HB; have HO_1 := n0_; have HO_8 := n1_; have HB := n2_; clear n0_ n1_ n2_; (try clear hb); (try clear hb2); (try clear hk); (try clear hi)) | ((with_reducible refine gate_builtin (b := .append) (xs := #[.tmp 20, .tmp 22]) rfl ?_); at_builtin; refine Kd.R_append Kd.string (w0 := w) w.heap.size rfl (.tmp 20) (.tmp 22) 28 9 (.string ⟨#[]⟩) 16 rfl Tryd.underlying28 info9 rfl (by decide) (by omega) u1 x1_1 t156 [.string t156] (fun k_ => some k_ ≠ (.slice (some ad155) t152.length co5 : Value).ownBlock) (fun _ => False) rfl rfl ?aP (fun _ hk => hk.elim) ?aF ?aO ?aB ?aS ?aL ?_; (case aP => exact rfl); (case aB => exact (by repeat (first | (with_reducible first | exact HB.out | apply below_alloc | apply pw_below_drewN | apply below_drew1) | exact HB.out))); (case aF => exact (fun k_ hk => Kd.fresh' (Kd.R_lt (by (with_reducible repeat (first | apply Kd.R_alloc | apply Kd.R_drewN | apply Kd.R_drew)); exact HO_8.out)) k_ hk)); (case aO => exact (by (with_reducible repeat (first | apply Kd.R_alloc | apply Kd.R_drewN | apply Kd.R_drew)); exact HO_1.out)); (case aS => exact (below_size (by repeat (first | (with_reducible first | exact HB.out | apply below_alloc | apply pw_below_drewN | apply below_drew1) | exact HB.out)))); (case aL => have := LMc10.out; omega); intro v160 w12 ho hb hg hat; rw [← Ny159.out] at ho; have n0_ := Aside0.mk (Kd.R_after (ok := (fun _ => True)) (by (with_reducible repeat (first | apply Kd.R_alloc | apply Kd.R_drewN | apply Kd.R_drew)); exact Kd.R_mono HO_8.out (fun _ hk => ⟨trivial, hk⟩)) hg hat); have n1_ := Aside0.mk (hb); have n2_ := Aside0.mk (ho); clear HO_8; clear HB; clear HO_1; have HO_8 := n0_; have HB := n1_; have HO161 := n2_; clear n0_ n1_ n2_; clear ho hb hg hat))
              go_roundg k1
              case measure => have := HK1.out; omega
              case rel => exact ⟨(y159), (wrap64 (x10_1 + 1)), (by first | rfl | (simp; done) | (simp [*]; done)), H', ⟨by have := HK1.out; omega⟩, ⟨by (with_reducible repeat (first | apply Kd.R_alloc | apply Kd.R_drewN | apply Kd.R_drew)); exact HO161.out⟩, ⟨by (with_reducible repeat (first | apply Kd.R_alloc | apply Kd.R_drewN | apply Kd.R_drew)); exact Kd.R_mono HO_8.out (fun _ hk => hk.2)⟩, ⟨by repeat (first | (with_reducible first | exact HB.out | apply below_alloc | apply pw_below_drewN | apply below_drew1) | exact HB.out)⟩⟩
            · rw [if_neg c10] at H
              exact absurd H (by simp)
          · rw [if_neg c8] at H
            exact absurd H (by simp)
        · rw [if_neg c7] at H
          exact absurd H (by simp)
      · rw [if_neg c6] at H
        have c6b0 : decide (x10_1 < (t152.length : Int)) = false := decide_eq_false c6
        clear c6
        obtain rfl := Option.some.inj H
        go_wp2
        go_ret
        exact ⟨_, by first | rfl | (simp [errW_none, errW_some] <;> rfl) | (simp [*, errW_none, errW_some] <;> rfl), by (with_reducible repeat (first | apply Kd.R_alloc | apply Kd.R_drewN | apply Kd.R_drew)); exact Kd.R_mono HO_1.out (fun _ hk => trivial), by repeat (first | (with_reducible first | exact HB.out | apply below_alloc | apply pw_below_drewN | apply below_drew1) | exact HB.out)⟩
end Go.Proofs.YtniehnkiicliaaaDoor.M
end
section
namespace Go.Proofs.YtniehnkiicliaaaDoor.M
open Go.RowKit Go.Proofs.YtniehnkiicliaaaDoorW.PrintWords Go.Proofs.YtniehnkiicliaaaDoorW.PrintLast Go.Proofs.YtniehnkiicliaaaDoorW.PrintMore
set_option linter.unusedVariables false
set_option linter.unusedSimpArgs false
set_option maxHeartbeats 1000000 in
set_option maxRecDepth 1000000 in
theorem enc_ascii_calls (k : Nat) (nm : List ByteArray) (hnm : glyph_Names.f k = some nm) (hlen : 95 ≤ nm.length) (w : World) (hG : GW w) :
    Calls Tryd.prog 47 #[] w fun e w' => e = .returned (.agg (namesV (asciiL nm))) ∧ Below w.heap.size w w' := by
  have HN := Aside0.mk hnm
  clear hnm
  have HG := Aside0.mk hG
  clear hG
  go_enter Tryd.func47, Tryd.ntmps47
  go_wp2
  rw [zero_names]
  generalize hzz : namesV (List.replicate 256 noName) = Z
  have hz256 : Z.size = 256 := by rw [← hzz, namesV_size, List.length_replicate]
  have HZ := Aside0.mk hzz
  clear hzz
  have hdrew : ∀ W : World, W.drew.heap = W.heap := fun _ => rfl
  refine start_ (n := 3) (S := fun _ => True) (ds := []) #[false, false, false] (by kernel_rfl) rfl rfl trivial (fun _ => ?_)
  refine pure_ (i := 0) (N := some 2) (v := .slice (some ⟨w.heap.size + 1, 32, none⟩) 95 224) (a' := ?_) #[true, false, false] rfl rfl (by kernel_rfl) (fun _ _ _ h => h) (Or.inl ⟨by rfl, ?_⟩) ?_ ?_
  · intro w'
    go_simp
  rotate_left
  · simp only [Act.put, List.setIfInBounds_toArray, List.set_cons_zero, List.set_cons_succ]
    rfl
  refine one_ (i := 1) (N := some 3) #[true, true, false] rfl rfl (by kernel_rfl) (by decide) (fun K hK => ?_)
  refine call_ 27 #[] rfl rfl ?_ ?_
  · simp only [List.getElem_toArray, List.getElem_cons_succ, List.getElem_cons_zero]
    unfold execOp
    simp only [resolve, invoke, Sem.run_bind, Sem.run_pure, Result.andThen_ok, List.map_toArray, List.map_nil, Act.eval]
    exact enters_ Tryd.func27 rfl rfl #[] _
  refine (glyph_Names.calls k nm _ ((HG.out.alloc _).alloc _).drew HN.out).mono ?_
  rintro e w1 ⟨v0, rfl, hR, hb⟩
  refine ⟨_, rfl, hK.out _ _ trivial (fun _ => ?_)⟩
  clear hK
  have hsz2 : ((w.alloc (Obj.cells Z 47)).alloc (Obj.cells Z 47)).drew.heap.size = w.heap.size + 2 := by
    show ((w.heap.push _).push _).size = _
    simp
  have hg1 : w1.heap[w.heap.size + 1]? = some (.cells Z 47 (0, 0)) :=
    (hb.block (w.heap.size + 1) (by rw [hsz2]; omega)).trans (heap_alloc2_new w _ _)
  have hg0 : w1.heap[w.heap.size]? = some (.cells Z 47 (0, 0)) := by
    refine (hb.block w.heap.size (by rw [hsz2]; omega)).trans ?_
    show ((w.heap.push _).push _)[w.heap.size]? = _
    rw [Array.getElem?_push, if_neg (by simp), Array.getElem?_push_size]
  have hbw : Below w.heap.size w w1 := by
    exact below_step (below_drew (below_alloc (below_alloc (Below.refl _ w) _) _)) hb
  obtain ⟨ROW, hROW⟩ : ∃ R : Array Value, R = namesV (asciiL nm) := ⟨_, rfl⟩
  have hsz : ROW.size = 256 := by rw [hROW, namesV_size, asciiL_length nm hlen]
  have hone : ROW.all (·.oneCell') = true := by rw [hROW]; exact namesV_one _
  refine one_ (i := 2) (N := some 4) #[true, true, true] rfl rfl (by kernel_rfl) (by decide) (fun K hK => ?_)
  rw [if_pos (by rfl)]
  have hrun : ∀ ty, (Builtin.copy_ #[28, 28] ty #[.slice (some ⟨w.heap.size + 1, 32, none⟩) 95 224, v0]).run Tryd.prog w1 = .ok (goInt 95) (w1.setRow (w.heap.size + 1) ROW) := by
    intro ty
    obtain ⟨A, c, rfl⟩ := Kd.R_slice hR
    obtain ⟨-, -, hC⟩ := Kd.R_reads' hR
    obtain ⟨b, o, rfl, hbk, hcell⟩ := strings_read hC (by omega)
    have h95 : ((nm.take 95).map Value.string).length = 95 := by simp; omega
    have := run_copy_row (P := Tryd.prog) w1 28 28 ty 9 (w.heap.size + 1) 32 95 224 ⟨b, o, none⟩ nm.length c Z 47 ((nm.take 95).map Value.string) Tryd.underlying28 (by kernel_rfl) hg1
      (by rw [h95]; exact (Nat.min_eq_right hlen).symm)
      (by
        intro j v hj
        rw [List.getElem?_map] at hj
        obtain ⟨x, hx, rfl⟩ := Option.map_eq_some_iff.1 hj
        have hx' : nm[j]? = some x := by
          rw [List.getElem?_take] at hx
          split at hx
          · exact hx
          · cases hx
        have := hcell j x hx'
        by_cases e0 : j = 0
        · subst e0; simpa [Addr.add] using this
        · simpa [Addr.add, e0] using this)
      (by rw [h95, hz256]; omega)
      (by
        intro v hv
        obtain ⟨x, -, rfl⟩ := List.mem_map.1 hv
        rfl)
    rw [h95] at this
    rw [this, hROW, ← ascii_row nm hlen, HZ.out]
    rfl
  refine Lib.wp_copy_run w1 (.tmp 2) (.tmp 3) 28 28 rfl _ v0 rfl rfl (hrun _) ?_
  refine hK.out _ _ trivial (fun _ => ?_)
  clear hK
  refine norm_ (a' := ?_) ?_ ?_
  rotate_left
  · show Act.put (Act.put _ (some 3) _) (some 4) _ = _
    simp only [Act.put, List.setIfInBounds_toArray, List.set_cons_zero, List.set_cons_succ]
    rfl
  refine done_ (by kernel_rfl) ?_
  have hA : (w1.setRow (w.heap.size + 1) ROW).heap[w.heap.size + 1]? = some (.cells ROW 47 (0, 0)) := setRow_heap w1 _ _ ROW 47 (0, 0) hg1
  have hB : (w1.setRow (w.heap.size + 1) ROW).heap[w.heap.size]? = some (.cells Z 47 (0, 0)) := by
    rw [heap_setRow_ne _ _ _ _ (by omega)]; exact hg0
  have hbw2 : Below w.heap.size w (w1.setRow (w.heap.size + 1) ROW) := below_setRow hbw (by omega) _
  have HROW := Aside0.mk hROW
  have HBW := Aside0.mk hbw2
  clear hROW hrun hbw hbw2 hg0 hg1 hb hR hdrew
  generalize w1.setRow (w.heap.size + 1) ROW = w2 at hA hB HBW ⊢
  go_wp2_with (first | (refine wpList_load_row rfl 47 (.tmp 1) rfl (w.heap.size + 1) rfl 47 ROW (0, 0) _ hA Tryd.underlying47 rfl (by rw [hsz]; kernel_rfl) ?_) | (refine wpList_store_row rfl 47 (.tmp 0) (.tmp 5) rfl w.heap.size ROW rfl rfl 47 _ hB (by rw [hsz]; kernel_rfl) (by rw [hsz]; exact hz256) hone ?_))
  refine bodyPost_ret (v := .agg ROW) ?_ rfl ⟨by rw [HROW.out], below_setRow HBW.out (Nat.le_refl _) _⟩
  exact results_cell_row (fn := Tryd.f47) (p := 0) (ty := 47) rfl _ _ w.heap.size 47 ROW (0, 0) _ rfl (setRow_heap w2 _ _ ROW 47 (0, 0) hB) Tryd.underlying47 rfl (by rw [hsz]; kernel_rfl)
end Go.Proofs.YtniehnkiicliaaaDoor.M
end
section
namespace Go.Proofs.YtniehnkiicliaaaDoor.M
open Go.RowKit Go.Proofs.YtniehnkiicliaaaDoorW.PrintWords
set_option linter.unusedVariables false
def atoiN (a0 : ByteArray) : Option Int := if a0.size ≤ 18 then Lib.atoi a0.data.toList else none
theorem strconv_Atoi_calls (a0 : ByteArray) (r : Int) (w : World) (h : atoiN a0 = some r) :
    Calls Tryd.prog 67 #[.string a0] w fun e w' => e = .returned (.tuple #[.int .i64 r, .nilIface]) ∧ Below w.heap.size w w' := by
  unfold atoiN at h
  split at h
  case isFalse => cases h
  rename_i hb
  refine (Tryd.strconv_Atoi a0 r hb h w).mono ?_
  rintro e w' ⟨rfl, t, rfl⟩
  exact ⟨rfl, bytes_below (Below.refl _ w) (Nat.le_refl _) 5 t⟩
end Go.Proofs.YtniehnkiicliaaaDoor.M
end
section
namespace Go.Proofs.YtniehnkiicliaaaDoor.M
open Go.RowKit Go.Proofs.YtniehnkiicliaaaDoorW.PrintWords Go.Proofs.YtniehnkiicliaaaDoorW.PrintLast Go.Proofs.YtniehnkiicliaaaDoorW.PrintMore
set_option linter.unusedVariables false
set_option linter.unusedSimpArgs false
def putName (n : List ByteArray) (f : ByteArray) : Option (List ByteArray) :=
  (strings_Cut.f f ⟨#[47]⟩).bind fun t => (atoiN t.1).bind fun k => if 0 ≤ k ∧ k < 256 then some (n.set k.toNat t.2.1) else none
def putFields : List ByteArray → List ByteArray → Option (List ByteArray)
  | n, [] => some n
  | n, f :: r => (putName n f).bind fun m => putFields m r
def putLines : List ByteArray → List ByteArray → Option (List ByteArray)
  | n, [] => some n
  | n, l :: r => (strings_Fields.f l).bind fun fs => (putFields n fs).bind fun m => putLines m r
theorem putName_length {n m : List ByteArray} {f : ByteArray} (h : putName n f = some m) : m.length = n.length := by
  unfold putName at h
  obtain ⟨t, -, h⟩ := Option.bind_eq_some_iff.1 h
  obtain ⟨k, -, h⟩ := Option.bind_eq_some_iff.1 h
  split at h
  · obtain rfl := Option.some.inj h; simp
  · cases h
theorem fields_len {a : ByteArray} {r : List ByteArray} (h : strings_Fields.f a = some r) : r.length ≤ 8796093022208 := by
  unfold strings_Fields.f at h
  split at h
  case isFalse => cases h
  rename_i hb
  obtain rfl := Option.some.inj h
  exact hb.2.2
set_option maxHeartbeats 1000000 in
set_option maxRecDepth 1000000 in
theorem enc_with_calls (n : List ByteArray) (hn : n.length = 256) (A0 : Option Addr) (c0 : Nat) (lines r : List ByteArray) (w : World) (hr0 : Kd.C Kd.string w A0 lines.length lines) (hc0 : lines.length ≤ c0) (hll : lines.length ≤ 1000000) (hG : GW w) (h : putLines n lines = some r) :
    Calls Tryd.prog 48 #[.agg (namesV n), .slice A0 lines.length c0] w fun e w' => e = .returned (.agg (namesV r)) ∧ Below w.heap.size w w' := by
  have HR := Aside0.mk hr0
  have HG := Aside0.mk hG
  have HH := Aside0.mk h
  have HN := Aside0.mk hn
  clear hr0 hG h hn
  generalize hV : namesV n = V
  have HV := Aside0.mk hV
  clear hV
  go_enter Tryd.func48, Tryd.ntmps48
  go_wp2
  rw [zero_names]
  generalize hzz : namesV (List.replicate 256 noName) = Z
  have hz256 : Z.size = 256 := by rw [← hzz, namesV_size, List.length_replicate]
  clear hzz
  go_loopw [16] (fun i wr => ∃ (k : Nat) (m : List ByteArray), k ≤ lines.length ∧ i = .int .i64 k ∧ Aside0 (m.length = 256) ∧ Aside0 (putLines m (lines.drop k) = some r) ∧ Aside0 (wr.heap[w.heap.size]? = some (.cells (namesV m) 47 (0, 0))) ∧ Aside0 (wr.heap[w.heap.size + 1]? = some (.cells Z 47 (0, 0))) ∧ Aside0 (Below w.heap.size w wr)) (fun i wr => lines.length - (intOf i).toNat)
  case atStart =>
    refine ⟨0, n, Nat.zero_le _, rfl, HN, ⟨by rw [List.drop_zero]; exact HH.out⟩, ⟨?_⟩, ⟨?_⟩, ⟨below_alloc (below_alloc (Below.refl _ w) _) _⟩⟩
    · rw [HV.out]
      show ((w.heap.push _).push _)[w.heap.size]? = _
      rw [Array.getElem?_push, if_neg (by simp), Array.getElem?_push_size]
    · exact heap_alloc2_new w _ _
  case round =>
    obtain ⟨k, m, hk, rfl, HM, HP, HV0, HZ0, HB⟩ := hrel
    by_cases hlt : k < lines.length
    · obtain ⟨ad, hA, hbk, hcell⟩ := strings_readA HR.out (by omega)
      subst hA
      have hx : wr.cell? (ad.add k) = some (.string lines[k]) := pw_cell_below HB.out (hcell k _ (List.getElem?_eq_getElem hlt))
      have hp := HP.out
      rw [List.drop_eq_getElem_cons hlt, putLines] at hp
      replace hp := Option.bind_eq_some_iff.1 hp
      rcases hp with ⟨fs, hfs, hp⟩
      replace hp := Option.bind_eq_some_iff.1 hp
      rcases hp with ⟨m2, hm2, hp⟩
      generalize lines[k] = line at hx hfs
      have hfl := fields_len hfs
      have HFS := Aside0.mk hfs
      have HM2 := Aside0.mk hm2
      have HP2 := Aside0.mk hp
      clear hfs hm2 hp HP hcell
      have hi1 : (k : Int) < (lines.length : Int) := by omega
      go_wp2_with (go_at_call 42; refine (strings_Fields.calls line fs _ (HG.out.below HB.out) HFS.out).mono ?_)
      rintro e W1 ⟨v0, rfl, hR, hb1⟩
      obtain ⟨A1, c1, rfl⟩ := Kd.R_slice hR
      obtain ⟨-, -, hC1⟩ := Kd.R_reads' hR
      have hwr : w.heap.size + 2 ≤ wr.heap.size := by
        rcases Nat.lt_or_ge (w.heap.size + 1) wr.heap.size with h' | h'
        · omega
        · have := HZ0.out; rw [Array.getElem?_eq_none h'] at this; cases this
      have hrow : 0 < fs.length → ∃ ad1 : Addr, A1 = some ad1 ∧ w.heap.size + 2 ≤ ad1.block ∧ ∀ (j : Nat) x, fs[j]? = some x → W1.cell? (ad1.add j) = some (.string x) := by
        intro h0
        obtain ⟨ad1, e1, -, hc⟩ := strings_readA hC1 h0
        subst e1
        have := Kd.R_base hR ad1.block rfl
        exact ⟨ad1, rfl, by omega, hc⟩
      have HV1 := Aside0.mk ((hb1.block w.heap.size (by omega)).trans HV0.out)
      have HZ1 := Aside0.mk ((hb1.block (w.heap.size + 1) (by omega)).trans HZ0.out)
      have HB1 := Aside0.mk (below_step HB.out hb1)
      have HROW := Aside0.mk hrow
      clear hb1 hR hC1 hrow HV0 HZ0 HB hx
      go_wp2
      go_loopw [23] (fun i ws => ∃ (j : Nat) (m1 : List ByteArray), j ≤ fs.length ∧ i = .int .i64 j ∧ Aside0 (m1.length = 256) ∧ Aside0 (putFields m1 (fs.drop j) = some m2) ∧ Aside0 (ws.heap[w.heap.size]? = some (.cells (namesV m1) 47 (0, 0))) ∧ Aside0 (ws.heap[w.heap.size + 1]? = some (.cells Z 47 (0, 0))) ∧ Aside0 (Below w.heap.size w ws) ∧ Aside0 (0 < fs.length → ∃ ad1 : Addr, A1 = some ad1 ∧ w.heap.size + 2 ≤ ad1.block ∧ ∀ (j : Nat) x, fs[j]? = some x → ws.cell? (ad1.add j) = some (.string x))) (fun i ws => fs.length - (intOf i).toNat)
      case atStart => exact ⟨0, m, Nat.zero_le _, rfl, HM, HM2, HV1, HZ1, HB1, HROW⟩
      case round =>
        clear HV1 HZ1 HB1 HROW HM2 HM
        obtain ⟨j, m1, hj, rfl, HM, HM2, HV1, HZ1, HB1, HROW⟩ := hrel
        by_cases hlj : j < fs.length
        · obtain ⟨ad1, hA1, hb1, hcell⟩ := HROW.out (by omega)
          subst hA1
          have hx := hcell j _ (List.getElem?_eq_getElem hlj)
          have hp := HM2.out
          rw [List.drop_eq_getElem_cons hlj, putFields] at hp
          replace hp := Option.bind_eq_some_iff.1 hp
          rcases hp with ⟨m3, hm3, hp⟩
          generalize fs[j] = fld at hx hm3
          unfold putName at hm3
          replace hm3 := Option.bind_eq_some_iff.1 hm3
          rcases hm3 with ⟨⟨c, nm, bb⟩, hcut, hm3⟩
          replace hm3 := Option.bind_eq_some_iff.1 hm3
          rcases hm3 with ⟨z, hz, hm3⟩
          simp only at hz hm3
          split at hm3
          case isFalse => cases hm3
          rename_i hz01
          replace hm3 := Option.some.inj hm3
          subst hm3
          have hq0 := hz01.1
          have hq := hz01.2
          have HCUT := Aside0.mk hcut
          have HZQ := Aside0.mk hz
          have HP3 := Aside0.mk hp
          have HCELL := Aside0.mk hcell
          clear hcut hz hp hz01 HM2 hcell
          have hj1 : (j : Int) < (fs.length : Int) := by omega
          go_wp2_with fail
          have hwr2 : w.heap.size + 2 ≤ wr.heap.size := by
            rcases Nat.lt_or_ge (w.heap.size + 1) wr.heap.size with h' | h'
            · omega
            · have := HZ1.out; rw [Array.getElem?_eq_none h'] at this; cases this
          with_reducible refine (strings_Cut.calls fld _ c nm bb _ (HG.out.below HB1.out) HCUT.out).mono ?_
          rintro e W2 ⟨rfl, hb2⟩
          have HV2 := Aside0.mk ((hb2.block w.heap.size (by omega)).trans HV1.out)
          have HZ2 := Aside0.mk ((hb2.block (w.heap.size + 1) (by omega)).trans HZ1.out)
          have HB2 := Aside0.mk (below_step HB1.out hb2)
          have HROW2 := Aside0.mk (fun j x hh => pw_cell_below hb2 (HCELL.out j x hh))
          have hwr3 : w.heap.size + 2 ≤ W2.heap.size := Nat.le_trans hwr2 hb2.size
          clear HV1 HZ1 HB1 hx hb2 HCELL
          go_wp2_with fail
          with_reducible refine (strconv_Atoi_calls c z _ HZQ.out).mono ?_
          rintro e W3 ⟨rfl, hb3⟩
          have HV3 := Aside0.mk ((hb3.block w.heap.size (by omega)).trans HV2.out)
          have HZ3 := Aside0.mk ((hb3.block (w.heap.size + 1) (by omega)).trans HZ2.out)
          have HB3 := Aside0.mk (below_step HB2.out hb3)
          have HROW3 := Aside0.mk (fun j x hh => pw_cell_below hb3 (HROW2.out j x hh))
          clear HV2 HZ2 HB2 hb3 HROW2
          obtain ⟨q, rfl⟩ := Int.eq_ofNat_of_zero_le hq0
          rw [Int.toNat_natCast] at HP3
          obtain ⟨hc3, hf3⟩ := names_cell HV3.out (q := q) (by rw [HM.out]; omega)
          go_wp2
          go_roundw
          case rel =>
            refine ⟨j + 1, m1.set q nm, by omega, by go_num, ⟨by rw [List.length_set]; exact HM.out⟩, HP3, ⟨names_set nm HV3.out⟩, ⟨(heap_setCell_other _ _ _ _ (by show w.heap.size + 1 ≠ w.heap.size; omega)).trans HZ3.out⟩, ⟨HB3.out.setCell (Nat.le_refl _) _⟩, ⟨fun _ => ⟨ad1, rfl, hb1, ?_⟩⟩⟩
            intro j' x hh
            rw [cell_set_other _ _ _ _ _ (by have e : (ad1.add j').block = ad1.block := by unfold Addr.add; split <;> rfl
                                             rw [e]; omega)]
            exact HROW3.out j' x hh
          case measure => simp [intOf]; omega
        · have hjl : j = fs.length := by omega
          subst hjl
          have hp := HM2.out
          rw [List.drop_length, putFields] at hp
          replace hp := Option.some.inj hp
          subst hp
          clear HM2
          go_wp2
          go_roundw
          case rel =>
            exact ⟨k + 1, m1, by omega, by go_num, HM, HP2, HV1, HZ1, HB1⟩
          case measure => simp [intOf]; omega
    · have hkl : k = lines.length := by omega
      subst hkl
      have hp := HP.out
      rw [List.drop_length, putLines] at hp
      replace hp := Option.some.inj hp
      subst hp
      clear HP HR
      have hVs : (namesV m).size = 256 := by rw [namesV_size]; exact HM.out
      have hone : (namesV m).all (·.oneCell') = true := namesV_one _
      generalize hROW : namesV m = ROW at hVs hone
      have HVR : Aside0 (wr.heap[w.heap.size]? = some (.cells ROW 47 (0, 0))) := ⟨by rw [← hROW]; exact HV0.out⟩
      have HROW := Aside0.mk hROW
      clear hROW HV0
      go_wp2_with (first | (refine wpList_load_row rfl 47 (.tmp 2) rfl w.heap.size rfl 47 ROW (0, 0) _ HVR.out Tryd.underlying47 rfl (by rw [hVs]; kernel_rfl) ?_) | (refine wpList_store_row rfl 47 (.tmp 4) (.tmp 43) rfl (w.heap.size + 1) ROW rfl rfl 47 _ HZ0.out (by rw [hVs]; kernel_rfl) (by rw [hz256, hVs]) hone ?_))
      refine bodyPost_ret (v := .agg ROW) ?_ rfl ⟨by rw [HROW.out], below_setRow HB.out (by omega) _⟩
      exact results_cell_row (fn := Tryd.f48) (p := 4) (ty := 47) rfl _ _ (w.heap.size + 1) 47 ROW (0, 0) _ rfl (setRow_heap wr _ _ ROW 47 (0, 0) HZ0.out) Tryd.underlying47 rfl (by rw [hVs]; kernel_rfl)
end Go.Proofs.YtniehnkiicliaaaDoor.M
end
