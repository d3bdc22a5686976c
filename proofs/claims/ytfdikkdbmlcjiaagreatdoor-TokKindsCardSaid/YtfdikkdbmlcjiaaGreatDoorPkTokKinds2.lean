/- Packed by this session's program hbpack.py out of this claim's own texts (QK, G, Q11, Mp, Lr, Sh, Sh2, Q24, Bd, Q26, Q16, Q12, Q35, Q38, Q46, Q62, Q54, Pl, Q25, Bf, Q27, Q14, Rf, Q15, Q10, Q34, Q17, Q37, Q51, Q36, Q18, Q19, Q20, Q40): the same declarations, without those that the claim does not use. -/
import Derived.Test.YtfdikkdbmlcjiaaGreatDoorPkTokKinds1
import Derived.Below
import Derived.Deep.Draws
import Derived.Deep.AppendLies
import Derived.Maps.AppendAt
import Derived.OwnWalk
import Derived.Laws.BytesArg
import Derived.Laws.MakeOwn
import Derived.Laws.OwnMore
import Derived.Deep.OwnRows
import Derived.Tactics
import Derived.Lib.ConvBytes
import Derived.Laws.Slices
import Derived.WalkKit
import Derived.KernelRfl
import Derived.RowKit3
import Derived.Deep.LoopGhost
import Derived.Deep.QuietTactic
import Derived.BigQuiet
import Derived.WideLaws
import Derived.Deep.DeepCutAuto
import Derived.Deep.CutBlock
import Derived.Deep.RegionHeld3
import Derived.Laws.Rows
import Derived.Lib.AppendStr
import Derived.ArgAppend
import Derived.Laws.IdiomCopy
import Derived.OrdersHeld
import Derived.Laws.BitsLemmas
import Derived.RowKit
import Derived.Test.YtfdikkdbmlcjiaaGreatDoorProg
import Derived.Lib.LaidTab
import Derived.Lib.ItoaNum
import Derived.Maps.RangeWalk
import Derived.Maps.StringElems
import Derived.Maps.OwnOps
import Derived.Lib.Strings
import Derived.Lib.IndexBytes
import Derived.Shelf.Strings.Builder1
import Derived.Shelf.Strings.Builder2
import Derived.Shelf.Strings.OnBuilder
import Derived.Shelf.Strings.Trim
import Derived.Shelf.Small.Utf8
import Derived.Shelf.Small.Strs
import Derived.Shelf.Strings.BuilderF
import Derived.Shelf.Strings.BuilderK
import Derived.Shelf.Strconv.ParseIntEmpty
import Derived.Shelf.LaysM
import Derived.Shelf.Strconv.Clone
import Derived.Shelf.Strconv.SyntaxError
import Derived.Shelf.LaysC
import Derived.Shelf.Strconv.ToError
import Derived.Shelf.Strconv.Lower
import Derived.Shelf.Strconv.ParseUint10
import Derived.Shelf.Strconv.ParseUint10Empty
import Derived.Shelf.Strconv.ParseUint10Any
import Derived.Shelf.Strconv.ParseInt10
import Derived.Shelf.Strconv.RangeError
import Derived.Shelf.Strconv.ToErrorRange
import Derived.Shelf.Strconv.ParseUintEmpty
import Derived.Shelf.Strconv.ParseUint10b64
import Derived.Shelf.Strconv.ParseUint10b32
import Derived.Shelf.Strconv.ParseUint10b16
import Derived.Shelf.Strconv.ParseUint10b8
import Derived.Shelf.Strconv.ParseUint10At
import Derived.Shelf.Strconv.ParseInt10At64
import Derived.Shelf.Strconv.ParseInt10At32
import Derived.Shelf.Strconv.ParseInt10At16
import Derived.Shelf.Strconv.ParseInt10At8
import Derived.Shelf.Strconv.ParseInt10All
import Derived.Shelf.Strconv.ParseIntPublic10
import Derived.Shelf.Strings.Search1
import Derived.Shelf.Strings.Search2
import Derived.Shelf.Strings.Cut
import Derived.Shelf.Strings.Shaped
import Derived.Shelf.Strings.Prefix
import Derived.Shelf.Strings.Runes
import Derived.Shelf.Strings.AsciiSet
import Derived.Shelf.Unicode.DecodeSlow
import Derived.Shelf.Slices.Turned
import Derived.Shelf.Strconv.Itoa0
import Derived.Shelf.Strconv.Itoa1
import Derived.Shelf.Strconv.Itoa2
import Derived.Shelf.Strconv.Itoa3
import Derived.Lib.AppendIntMem
import Derived.Lib.FrozenHead2
import Derived.Lib.OthersKept
import Derived.Lib.Builder
import Derived.Lib.UnsafeStr
import Derived.Laws.Externs
import Derived.Shelf.Strings.SlTrimAscii
import Derived.Lib.AppendZeros
import Derived.Laws.Tables
import Derived.Deep.RegionWith
import Derived.Laws.CopyOwn
section
/- Laid by this session's program hbprint.py out of the translation: the values' own kinds. -/
namespace Go.Proofs.YtfdikkdbmlcjiaaGreatDoor.M
open Go.RowKit Go.Proofs.YtfdikkdbmlcjiaaGreatDoorW.PrintWords Go.Proofs.YtfdikkdbmlcjiaaGreatDoorW.PrintLast Go.Proofs.YtfdikkdbmlcjiaaGreatDoorW.PrintMore
attribute [local go_sem] max2_int min2_int max_two min_two max_three min_three max_four min_four
set_option linter.unusedVariables false
set_option linter.unusedSimpArgs false
def errW : Option Int → Value
  | none => .nilIface
  | some c => .iface 0 (.int .i64 c)
theorem errW_none : errW none = .nilIface := rfl
theorem errW_some (c : Int) : errW (some c) = .iface 0 (.int .i64 c) := rfl
theorem info5 : (Tryz.prog.info? 5).map (fun i => (i.zero, i.size, i.bytes)) = some (some (.int .u8 0), 1, 1) := by kernel_rfl
theorem info9 : (Tryz.prog.info? 9).map (fun i => (i.zero, i.size, i.bytes)) = some (some (.string ⟨#[]⟩), 1, 16) := by kernel_rfl
theorem info31 : (Tryz.prog.info? 31).map (fun i => (i.zero, i.size, i.bytes)) = some (some (.agg #[(.int .i64 0), (.int .i64 0), (.int .i64 0), (.string ⟨#[]⟩)]), 4, 40) := by kernel_rfl
structure S31 where
  f0 : Int
  f1 : Int
  f2 : Int
  f3 : ByteArray
def z31 : S31 := ⟨(0 : Int), (0 : Int), (0 : Int), (⟨#[]⟩ : ByteArray)⟩
def k31 : Kd S31 := Kd.iso (Kd.pair (Kd.int .i64) (Kd.pair (Kd.int .i64) (Kd.pair (Kd.int .i64) Kd.string))) (fun x : S31 => (x.f0, x.f1, x.f2, x.f3))
theorem k31_open {w : World} {x : S31} {cs : List Value} (h : k31.K w x cs) : cs = [.int .i64 x.f0, .int .i64 x.f1, .int .i64 x.f2, .string x.f3] := by
  obtain ⟨_, _, rfl, rfl, ⟨_, _, rfl, rfl, ⟨_, _, rfl, rfl, rfl⟩⟩⟩ := h
  exact rfl
theorem k31_mkM (w : World) (base : Nat) (ok : Nat → Prop) (x : S31)  : k31.M w base ok x [.int .i64 x.f0, .int .i64 x.f1, .int .i64 x.f2, .string x.f3] := ⟨[.int .i64 x.f0], [.int .i64 x.f1, .int .i64 x.f2, .string x.f3], rfl, rfl, ⟨[.int .i64 x.f1], [.int .i64 x.f2, .string x.f3], rfl, rfl, ⟨[.int .i64 x.f2], [.string x.f3], rfl, rfl, rfl⟩⟩⟩
def rd_T31 (xs : List S31) (i : Int) : S31 := xs.getD i.toNat z31
theorem at_T31 {w : World} {A : Option Addr} {n : Nat} {xs : List S31} (h : Kd.C k31 w A n xs) (i : Int) (h0 : 0 ≤ i) (h1 : i < n) : ∃ ad , A = some ad ∧ w.cell? (ad.add (i.toNat * 4)) = some (.int .i64 (rd_T31 xs i).f0) ∧ w.cell? ⟨(ad.add (i.toNat * 4)).block, (ad.add (i.toNat * 4)).off + 1, none⟩ = some (.int .i64 (rd_T31 xs i).f1) ∧ w.cell? ⟨(ad.add (i.toNat * 4)).block, (ad.add (i.toNat * 4)).off + 2, none⟩ = some (.int .i64 (rd_T31 xs i).f2) ∧ w.cell? ⟨(ad.add (i.toNat * 4)).block, (ad.add (i.toNat * 4)).off + 3, none⟩ = some (.string (rd_T31 xs i).f3) := by
  obtain ⟨ad, c, e, _, hK, hc0⟩ := Kd.C_get h z31 i h0 h1
  have hc : ∀ j u, c[j]? = some u → w.cell? (ad.add (i.toNat * 4 + j)) = some u := hc0
  obtain rfl := k31_open hK
  exact ⟨ad, e, hc 0 _ rfl, by rw [← add_field _ _ 1 (by omega)]; exact hc 1 _ rfl, by rw [← add_field _ _ 2 (by omega)]; exact hc 2 _ rfl, by rw [← add_field _ _ 3 (by omega)]; exact hc 3 _ rfl⟩
end Go.Proofs.YtfdikkdbmlcjiaaGreatDoor.M
end
section
namespace Go.Proofs.YtfdikkdbmlcjiaaGreatDoor.M
open Go.RowKit Go.Proofs.YtfdikkdbmlcjiaaGreatDoorW.PrintWords
set_option linter.unusedVariables false
theorem tab_below {P : Program} {n : String} {g : Nat} {k : IntKind} {zs : List Int} {w w' : World} (hg : P.globalNamed n = some g) (h : Lib.TabIs P w n k zs) (hb : Below w.heap.size w w') : Lib.TabIs P w' n k zs := by
  unfold Lib.TabIs World.var? at h ⊢
  rw [hg] at h ⊢
  simp only [Option.bind_some] at h ⊢
  have hlt : g < w.heap.size := by
    rcases Nat.lt_or_ge g w.heap.size with h' | h'
    · exact h'
    · rw [Array.getElem?_eq_none h'] at h; cases h
  rw [hb.block g hlt]
  exact h
/-- strconv.ErrRange holds a pointer to an errors.errorString; internal/bytealg.MaxLen holds some int. -/
structure GW (w : World) : Prop where
  range : ∃ a, w.cell? ⟨0, 0, none⟩ = some (.iface 146 (.pointer (some a)))
  syn : ∃ a, w.cell? ⟨3, 0, none⟩ = some (.iface 146 (.pointer (some a)))
  max : ∃ m : Int, w.cell? ⟨1, 0, none⟩ = some (.int .i64 m)
  pow : Lib.TabIs Tryz.prog w "internal/strconv.uint64pow10" .u64 Lib.pow10Tab
theorem GW.below {w w1 : World} (hb : Below w.heap.size w w1) (h : GW w) : GW w1 where
  range := h.range.imp fun _ e => pw_cell_below hb e
  syn := h.syn.imp fun _ e => pw_cell_below hb e
  max := h.max.imp fun _ e => pw_cell_below hb e
  pow := tab_below (g := 2) (by kernel_rfl) h.pow hb
theorem GW.alloc {w : World} (h : GW w) (o : Obj) : GW (w.alloc o) := h.below (below_alloc (Below.refl _ _) o)
end Go.Proofs.YtfdikkdbmlcjiaaGreatDoor.M
end
section
/- Laid by this session's program hbprint.py out of the translation: the function hornbook/hornbookref04.Alike and its contract. -/
namespace Go.Proofs.YtfdikkdbmlcjiaaGreatDoor.M
open Go.RowKit Go.Proofs.YtfdikkdbmlcjiaaGreatDoorW.PrintWords Go.Proofs.YtfdikkdbmlcjiaaGreatDoorW.PrintLast Go.Proofs.YtfdikkdbmlcjiaaGreatDoorW.PrintMore
attribute [local go_sem] max2_int min2_int max_two min_two max_three min_three max_four min_four
set_option linter.unusedVariables false
set_option linter.unusedSimpArgs false
def hornbookref04_Alike.l0 : Nat → List (S31) → List (S31) → Int → Option (Bool)
  | 0, _, _, _ => none
  | k + 1, x0, x1, x5 => if x5 < (x0.length : Int) then (if 0 ≤ x5 then (if x5 < (x1.length : Int) then (if ((rd_T31 x0 x5).f0) = ((rd_T31 x1 x5).f0) then (if ((rd_T31 x0 x5).f2) = ((rd_T31 x1 x5).f2) then (if ((rd_T31 x0 x5).f3).toList = ((rd_T31 x1 x5).f3).toList then (hornbookref04_Alike.l0 k x0 x1 (wrap64 (x5 + 1))) else (some false)) else (some false)) else (some false)) else (none)) else (none)) else (some true)
def hornbookref04_Alike.f (k : Nat) (l0 : List (S31)) (l1 : List (S31)) : Option (Bool) := if (l0.length : Int) = (l1.length : Int) then (hornbookref04_Alike.l0 k l0 l1 0) else (some false)
set_option maxHeartbeats 8000000 in
set_option maxRecDepth 100000 in
theorem hornbookref04_Alike.calls (k : Nat) (A0 : Option Addr) (c0 : Nat) (l0 : List (S31)) (A1 : Option Addr) (c1 : Nat) (l1 : List (S31)) (r : Bool) (w : World) (hr0 : Kd.C k31 w A0 l0.length l0) (hc0 : l0.length ≤ c0) (hr1 : Kd.C k31 w A1 l1.length l1) (hc1 : l1.length ≤ c1) (h : hornbookref04_Alike.f k l0 l1 = some r) :
    Calls Tryz.prog 11 #[.slice A0 l0.length c0, .slice A1 l1.length c1] w fun e w' => e = .returned (.bool r) ∧ Drawn0 w w' := by
  have HR0 := Aside0.mk hr0
  have HC0 := Aside0.mk hc0
  clear hr0 hc0
  have HR1 := Aside0.mk hr1
  have HC1 := Aside0.mk hc1
  clear hr1 hc1
  have H : (if (l0.length : Int) = (l1.length : Int) then (hornbookref04_Alike.l0 k l0 l1 0) else (some false)) = some r := h
  clear h
  by_cases c3 : (l0.length : Int) = (l1.length : Int)
  · rw [if_pos c3] at H
    have c3b0 : ((l0.length : Int) == (l1.length : Int)) = true := beq_iff_eq.mpr c3
    have c3b1 : ((l0.length : Int) != (l1.length : Int)) = false := bne_eq_false_iff_eq.mpr c3
    have c3b2 : (l0.length == l1.length) = true := by first | simpa using c3 | (simp at c3 ⊢; omega)
    clear c3
    have H' := Aside0.mk H
    clear H
    go_enter Tryz.func11, Tryz.ntmps11
    go_wp2
    repeat (go_quiet (fail); try go_wp2)
    go_loopg [5] k (fun kq v5 w' => ∃ (x5_1 : Int), v5 = .int .i64 x5_1 ∧ Aside0 (hornbookref04_Alike.l0 kq l0 l1 x5_1 = some r) ∧ Aside0 (kq ≤ k) ∧ Drawn0 w w')
    case atStart => exact ⟨(0), (by first | rfl | (simp; done) | (simp [*]; done)), H', ⟨Nat.le_refl _⟩, by repeat (first | exact Drawn0.refl _ | apply Drawn0.step)⟩
    case round =>
      clear H'
      try clear c1
      try clear p2
      try clear c3
      try clear c3b0
      try clear c3b1
      try clear c3b2
      obtain ⟨x5_1, rfl, HA, HK1, ⟨m1, rfl⟩⟩ := hrel
      cases gk with
      | zero => exact absurd HA.out (by simp [hornbookref04_Alike.l0])
      | succ k1 =>
        have H := HA.out
        clear HA
        simp only [hornbookref04_Alike.l0] at H
        by_cases c4 : x5_1 < (l0.length : Int)
        · rw [if_pos c4] at H
          have c4b0 : decide (x5_1 < (l0.length : Int)) = true := decide_eq_true c4
          clear c4
          by_cases c5 : 0 ≤ x5_1
          · rw [if_pos c5] at H
            have c5b0 : decide (0 ≤ x5_1) = true := decide_eq_true c5
            clear c5
            by_cases c6 : x5_1 < (l1.length : Int)
            · rw [if_pos c6] at H
              have c6b0 : decide (x5_1 < (l1.length : Int)) = true := decide_eq_true c6
              clear c6
              by_cases c7 : ((rd_T31 l0 x5_1).f0) = ((rd_T31 l1 x5_1).f0)
              · rw [if_pos c7] at H
                have c7b0 : (((rd_T31 l0 x5_1).f0) == ((rd_T31 l1 x5_1).f0)) = true := beq_iff_eq.mpr c7
                have c7b1 : (((rd_T31 l0 x5_1).f0) != ((rd_T31 l1 x5_1).f0)) = false := bne_eq_false_iff_eq.mpr c7
                clear c7
                by_cases c8 : ((rd_T31 l0 x5_1).f2) = ((rd_T31 l1 x5_1).f2)
                · rw [if_pos c8] at H
                  have c8b0 : (((rd_T31 l0 x5_1).f2) == ((rd_T31 l1 x5_1).f2)) = true := beq_iff_eq.mpr c8
                  have c8b1 : (((rd_T31 l0 x5_1).f2) != ((rd_T31 l1 x5_1).f2)) = false := bne_eq_false_iff_eq.mpr c8
                  clear c8
                  by_cases c9 : ((rd_T31 l0 x5_1).f3).toList = ((rd_T31 l1 x5_1).f3).toList
                  · rw [if_pos c9] at H
                    have c9b0 : (((rd_T31 l0 x5_1).f3).toList == ((rd_T31 l1 x5_1).f3).toList) = true := beq_iff_eq.mpr c9
                    have c9b1 : (((rd_T31 l0 x5_1).f3).toList != ((rd_T31 l1 x5_1).f3).toList) = false := bne_eq_false_iff_eq.mpr c9
                    clear c9
                    have H' := Aside0.mk H
                    clear H
                    have p203 : 0 ≤ (x5_1 : Int) := of_decide_eq_true (by first | (with_reducible assumption) | assumption)
                    have q203 : x5_1 < (l0.length : Int) := of_decide_eq_true (by first | (with_reducible assumption) | assumption)
                    obtain ⟨ad203, e203, hx203_0, hx203_1, hx203_2, hx203_3⟩ := at_T31 HR0.out x5_1 p203 q203
                    cases e203
                    replace p203 := eq_true p203
                    replace q203 := eq_true q203
                    have p204 : 0 ≤ (x5_1 : Int) := of_decide_eq_true (by first | (with_reducible assumption) | assumption)
                    have q204 : x5_1 < (l1.length : Int) := of_decide_eq_true (by first | (with_reducible assumption) | assumption)
                    obtain ⟨ad204, e204, hx204_0, hx204_1, hx204_2, hx204_3⟩ := at_T31 HR1.out x5_1 p204 q204
                    cases e204
                    replace p204 := eq_true p204
                    replace q204 := eq_true q204
                    have p205 : 0 ≤ (x5_1 : Int) := of_decide_eq_true (by first | (with_reducible assumption) | assumption)
                    have q205 : x5_1 < (l0.length : Int) := of_decide_eq_true (by first | (with_reducible assumption) | assumption)
                    obtain ⟨ad205, e205, hx205_0, hx205_1, hx205_2, hx205_3⟩ := at_T31 HR0.out x5_1 p205 q205
                    obtain rfl : ad203 = ad205 := (by injection e205)
                    replace p205 := eq_true p205
                    replace q205 := eq_true q205
                    have p206 : 0 ≤ (x5_1 : Int) := of_decide_eq_true (by first | (with_reducible assumption) | assumption)
                    have q206 : x5_1 < (l1.length : Int) := of_decide_eq_true (by first | (with_reducible assumption) | assumption)
                    obtain ⟨ad206, e206, hx206_0, hx206_1, hx206_2, hx206_3⟩ := at_T31 HR1.out x5_1 p206 q206
                    obtain rfl : ad204 = ad206 := (by injection e206)
                    replace p206 := eq_true p206
                    replace q206 := eq_true q206
                    have p207 : 0 ≤ (x5_1 : Int) := of_decide_eq_true (by first | (with_reducible assumption) | assumption)
                    have q207 : x5_1 < (l0.length : Int) := of_decide_eq_true (by first | (with_reducible assumption) | assumption)
                    obtain ⟨ad207, e207, hx207_0, hx207_1, hx207_2, hx207_3⟩ := at_T31 HR0.out x5_1 p207 q207
                    obtain rfl : ad203 = ad207 := (by injection e207)
                    replace p207 := eq_true p207
                    replace q207 := eq_true q207
                    have p208 : 0 ≤ (x5_1 : Int) := of_decide_eq_true (by first | (with_reducible assumption) | assumption)
                    have q208 : x5_1 < (l1.length : Int) := of_decide_eq_true (by first | (with_reducible assumption) | assumption)
                    obtain ⟨ad208, e208, hx208_0, hx208_1, hx208_2, hx208_3⟩ := at_T31 HR1.out x5_1 p208 q208
                    obtain rfl : ad204 = ad208 := (by injection e208)
                    replace p208 := eq_true p208
                    replace q208 := eq_true q208
                    go_wp2
                    repeat (go_quiet (fail); try go_wp2)
                    go_roundg k1
                    case measure => have := HK1.out; omega
                    case rel => exact ⟨(wrap64 (x5_1 + 1)), (by first | rfl | (simp; done) | (simp [*]; done)), H', ⟨by have := HK1.out; omega⟩, by repeat (first | exact Drawn0.refl _ | apply Drawn0.step)⟩
                  · rw [if_neg c9] at H
                    have c9b0 : (((rd_T31 l0 x5_1).f3).toList == ((rd_T31 l1 x5_1).f3).toList) = false := beq_eq_false_iff_ne.mpr c9
                    have c9b1 : (((rd_T31 l0 x5_1).f3).toList != ((rd_T31 l1 x5_1).f3).toList) = true := bne_iff_ne.mpr c9
                    obtain rfl := Option.some.inj H
                    have p203 : 0 ≤ (x5_1 : Int) := of_decide_eq_true (by first | (with_reducible assumption) | assumption)
                    have q203 : x5_1 < (l0.length : Int) := of_decide_eq_true (by first | (with_reducible assumption) | assumption)
                    obtain ⟨ad203, e203, hx203_0, hx203_1, hx203_2, hx203_3⟩ := at_T31 HR0.out x5_1 p203 q203
                    cases e203
                    replace p203 := eq_true p203
                    replace q203 := eq_true q203
                    have p204 : 0 ≤ (x5_1 : Int) := of_decide_eq_true (by first | (with_reducible assumption) | assumption)
                    have q204 : x5_1 < (l1.length : Int) := of_decide_eq_true (by first | (with_reducible assumption) | assumption)
                    obtain ⟨ad204, e204, hx204_0, hx204_1, hx204_2, hx204_3⟩ := at_T31 HR1.out x5_1 p204 q204
                    cases e204
                    replace p204 := eq_true p204
                    replace q204 := eq_true q204
                    have p205 : 0 ≤ (x5_1 : Int) := of_decide_eq_true (by first | (with_reducible assumption) | assumption)
                    have q205 : x5_1 < (l0.length : Int) := of_decide_eq_true (by first | (with_reducible assumption) | assumption)
                    obtain ⟨ad205, e205, hx205_0, hx205_1, hx205_2, hx205_3⟩ := at_T31 HR0.out x5_1 p205 q205
                    obtain rfl : ad203 = ad205 := (by injection e205)
                    replace p205 := eq_true p205
                    replace q205 := eq_true q205
                    have p206 : 0 ≤ (x5_1 : Int) := of_decide_eq_true (by first | (with_reducible assumption) | assumption)
                    have q206 : x5_1 < (l1.length : Int) := of_decide_eq_true (by first | (with_reducible assumption) | assumption)
                    obtain ⟨ad206, e206, hx206_0, hx206_1, hx206_2, hx206_3⟩ := at_T31 HR1.out x5_1 p206 q206
                    obtain rfl : ad204 = ad206 := (by injection e206)
                    replace p206 := eq_true p206
                    replace q206 := eq_true q206
                    have p207 : 0 ≤ (x5_1 : Int) := of_decide_eq_true (by first | (with_reducible assumption) | assumption)
                    have q207 : x5_1 < (l0.length : Int) := of_decide_eq_true (by first | (with_reducible assumption) | assumption)
                    obtain ⟨ad207, e207, hx207_0, hx207_1, hx207_2, hx207_3⟩ := at_T31 HR0.out x5_1 p207 q207
                    obtain rfl : ad203 = ad207 := (by injection e207)
                    replace p207 := eq_true p207
                    replace q207 := eq_true q207
                    have p208 : 0 ≤ (x5_1 : Int) := of_decide_eq_true (by first | (with_reducible assumption) | assumption)
                    have q208 : x5_1 < (l1.length : Int) := of_decide_eq_true (by first | (with_reducible assumption) | assumption)
                    obtain ⟨ad208, e208, hx208_0, hx208_1, hx208_2, hx208_3⟩ := at_T31 HR1.out x5_1 p208 q208
                    obtain rfl : ad204 = ad208 := (by injection e208)
                    replace p208 := eq_true p208
                    replace q208 := eq_true q208
                    go_wp2
                    repeat (go_quiet (fail); try go_wp2)
                    go_ret
                    exact ⟨by first | rfl | (simp; done) | (simp [*]; done), by repeat (first | exact Drawn0.refl _ | apply Drawn0.step)⟩
                · rw [if_neg c8] at H
                  have c8b0 : (((rd_T31 l0 x5_1).f2) == ((rd_T31 l1 x5_1).f2)) = false := beq_eq_false_iff_ne.mpr c8
                  have c8b1 : (((rd_T31 l0 x5_1).f2) != ((rd_T31 l1 x5_1).f2)) = true := bne_iff_ne.mpr c8
                  obtain rfl := Option.some.inj H
                  have p203 : 0 ≤ (x5_1 : Int) := of_decide_eq_true (by first | (with_reducible assumption) | assumption)
                  have q203 : x5_1 < (l0.length : Int) := of_decide_eq_true (by first | (with_reducible assumption) | assumption)
                  obtain ⟨ad203, e203, hx203_0, hx203_1, hx203_2, hx203_3⟩ := at_T31 HR0.out x5_1 p203 q203
                  cases e203
                  replace p203 := eq_true p203
                  replace q203 := eq_true q203
                  have p204 : 0 ≤ (x5_1 : Int) := of_decide_eq_true (by first | (with_reducible assumption) | assumption)
                  have q204 : x5_1 < (l1.length : Int) := of_decide_eq_true (by first | (with_reducible assumption) | assumption)
                  obtain ⟨ad204, e204, hx204_0, hx204_1, hx204_2, hx204_3⟩ := at_T31 HR1.out x5_1 p204 q204
                  cases e204
                  replace p204 := eq_true p204
                  replace q204 := eq_true q204
                  have p205 : 0 ≤ (x5_1 : Int) := of_decide_eq_true (by first | (with_reducible assumption) | assumption)
                  have q205 : x5_1 < (l0.length : Int) := of_decide_eq_true (by first | (with_reducible assumption) | assumption)
                  obtain ⟨ad205, e205, hx205_0, hx205_1, hx205_2, hx205_3⟩ := at_T31 HR0.out x5_1 p205 q205
                  obtain rfl : ad203 = ad205 := (by injection e205)
                  replace p205 := eq_true p205
                  replace q205 := eq_true q205
                  have p206 : 0 ≤ (x5_1 : Int) := of_decide_eq_true (by first | (with_reducible assumption) | assumption)
                  have q206 : x5_1 < (l1.length : Int) := of_decide_eq_true (by first | (with_reducible assumption) | assumption)
                  obtain ⟨ad206, e206, hx206_0, hx206_1, hx206_2, hx206_3⟩ := at_T31 HR1.out x5_1 p206 q206
                  obtain rfl : ad204 = ad206 := (by injection e206)
                  replace p206 := eq_true p206
                  replace q206 := eq_true q206
                  go_wp2
                  repeat (go_quiet (fail); try go_wp2)
                  go_ret
                  exact ⟨by first | rfl | (simp; done) | (simp [*]; done), by repeat (first | exact Drawn0.refl _ | apply Drawn0.step)⟩
              · rw [if_neg c7] at H
                have c7b0 : (((rd_T31 l0 x5_1).f0) == ((rd_T31 l1 x5_1).f0)) = false := beq_eq_false_iff_ne.mpr c7
                have c7b1 : (((rd_T31 l0 x5_1).f0) != ((rd_T31 l1 x5_1).f0)) = true := bne_iff_ne.mpr c7
                obtain rfl := Option.some.inj H
                have p203 : 0 ≤ (x5_1 : Int) := of_decide_eq_true (by first | (with_reducible assumption) | assumption)
                have q203 : x5_1 < (l0.length : Int) := of_decide_eq_true (by first | (with_reducible assumption) | assumption)
                obtain ⟨ad203, e203, hx203_0, hx203_1, hx203_2, hx203_3⟩ := at_T31 HR0.out x5_1 p203 q203
                cases e203
                replace p203 := eq_true p203
                replace q203 := eq_true q203
                have p204 : 0 ≤ (x5_1 : Int) := of_decide_eq_true (by first | (with_reducible assumption) | assumption)
                have q204 : x5_1 < (l1.length : Int) := of_decide_eq_true (by first | (with_reducible assumption) | assumption)
                obtain ⟨ad204, e204, hx204_0, hx204_1, hx204_2, hx204_3⟩ := at_T31 HR1.out x5_1 p204 q204
                cases e204
                replace p204 := eq_true p204
                replace q204 := eq_true q204
                go_wp2
                repeat (go_quiet (fail); try go_wp2)
                go_ret
                exact ⟨by first | rfl | (simp; done) | (simp [*]; done), by repeat (first | exact Drawn0.refl _ | apply Drawn0.step)⟩
            · rw [if_neg c6] at H
              exact absurd H (by simp)
          · rw [if_neg c5] at H
            exact absurd H (by simp)
        · rw [if_neg c4] at H
          have c4b0 : decide (x5_1 < (l0.length : Int)) = false := decide_eq_false c4
          clear c4
          obtain rfl := Option.some.inj H
          go_wp2
          repeat (go_quiet (fail); try go_wp2)
          go_ret
          exact ⟨by first | rfl | (simp; done) | (simp [*]; done), by repeat (first | exact Drawn0.refl _ | apply Drawn0.step)⟩
  · rw [if_neg c3] at H
    have c3b0 : ((l0.length : Int) == (l1.length : Int)) = false := beq_eq_false_iff_ne.mpr c3
    have c3b1 : ((l0.length : Int) != (l1.length : Int)) = true := bne_iff_ne.mpr c3
    have c3b2 : (l0.length == l1.length) = false := by first | simpa using c3 | (simp at c3 ⊢; omega)
    obtain rfl := Option.some.inj H
    go_enter Tryz.func11, Tryz.ntmps11
    go_wp2
    repeat (go_quiet (fail); try go_wp2)
    go_ret
    exact ⟨by first | rfl | (simp; done) | (simp [*]; done), by repeat (first | exact Drawn0.refl _ | apply Drawn0.step)⟩
end Go.Proofs.YtfdikkdbmlcjiaaGreatDoor.M
end
section
namespace Go.Proofs.YtfdikkdbmlcjiaaGreatDoor.M
open Go.RowKit Go.Maps Go.Proofs.YtfdikkdbmlcjiaaGreatDoorW.PrintWords
set_option linter.unusedVariables false
set_option linter.unusedSimpArgs false
theorem key3 : Keyed Tryz.prog 3 := int_keyed Tryz.underlying3
def signRow (x : Int) (s : List UInt8) : Lit × DataW Unit := (.int .i64 x, .lit (.string s))
def signMap : DataW Unit := .map [signRow 6 [91], signRow 7 [93], signRow 8 [60, 60], signRow 9 [62, 62], signRow 10 [123], signRow 11 [125]]
theorem signMap_eq : ((((((DataW.map ([] : List (Lit × DataW Unit))).put (.int .i64 6) (.lit (.string [91]))).put (.int .i64 7) (.lit (.string [93]))).put (.int .i64 8) (.lit (.string [60, 60]))).put (.int .i64 9) (.lit (.string [62, 62]))).put (.int .i64 10) (.lit (.string [123]))).put (.int .i64 11) (.lit (.string [125])) = signMap := by kernel_rfl
set_option maxHeartbeats 1000000 in
set_option maxRecDepth 100000 in
theorem signs_calls (w : World) : Calls Tryz.prog 28 #[] w fun e w' => ∃ b, e = .returned (.map (some b)) ∧ w.heap.size ≤ b ∧ w'.ownsMap (H := Unit) Tryz.prog 3 (plainElem Tryz.prog 9) b 6 signMap ∧ Below w.heap.size w w' := by
  have hmm := @run_makeMap Tryz.prog
  have o0 := World.ownsMap_made (H := Unit) w Tryz.prog 3 (plainElem Tryz.prog 9)
  obtain ⟨w1, r1, o1, g1⟩ := o0.update key3 Tryz.underlying53 (by decide) (keyOf_int_mk Tryz.underlying3 (a := 6) (q := .i64) (by decide)) (plainElem_string (H := Unit) Tryz.underlying9 (s := ⟨#[91]⟩) (by decide))
  obtain ⟨w2, r2, o2, g2⟩ := o1.update key3 Tryz.underlying53 (by decide) (keyOf_int_mk Tryz.underlying3 (a := 7) (q := .i64) (by decide)) (plainElem_string (H := Unit) Tryz.underlying9 (s := ⟨#[93]⟩) (by decide))
  obtain ⟨w3, r3, o3, g3⟩ := o2.update key3 Tryz.underlying53 (by decide) (keyOf_int_mk Tryz.underlying3 (a := 8) (q := .i64) (by decide)) (plainElem_string (H := Unit) Tryz.underlying9 (s := ⟨#[60, 60]⟩) (by decide))
  obtain ⟨w4, r4, o4, g4⟩ := o3.update key3 Tryz.underlying53 (by decide) (keyOf_int_mk Tryz.underlying3 (a := 9) (q := .i64) (by decide)) (plainElem_string (H := Unit) Tryz.underlying9 (s := ⟨#[62, 62]⟩) (by decide))
  obtain ⟨w5, r5, o5, g5⟩ := o4.update key3 Tryz.underlying53 (by decide) (keyOf_int_mk Tryz.underlying3 (a := 10) (q := .i64) (by decide)) (plainElem_string (H := Unit) Tryz.underlying9 (s := ⟨#[123]⟩) (by decide))
  obtain ⟨w6, r6, o6, g6⟩ := o5.update key3 Tryz.underlying53 (by decide) (keyOf_int_mk Tryz.underlying3 (a := 11) (q := .i64) (by decide)) (plainElem_string (H := Unit) Tryz.underlying9 (s := ⟨#[125]⟩) (by decide))
  have e := signMap_eq
  have HO : Aside0 (w6.ownsMap (H := Unit) Tryz.prog 3 (plainElem Tryz.prog 9) w.heap.size 6 signMap) := ⟨by rw [← e]; exact o6⟩
  have b0 : Below w.heap.size w (w.alloc (.map #[] 0)) := below_alloc (Below.refl _ w) _
  have hb : ∀ {A B : World}, Below w.heap.size w A → A.grownBy B (some w.heap.size) → Below w.heap.size w B := fun h g => h.grown g h.size (fun k e => by cases e; exact Nat.le_refl _)
  have HB : Aside0 (Below w.heap.size w w6) := ⟨hb (hb (hb (hb (hb (hb b0 g1) g2) g3) g4) g5) g6⟩
  clear e o0 o1 o2 o3 o4 o5 o6 g1 g2 g3 g4 g5 g6 b0 hb
  go_enter Tryz.func28, Tryz.ntmps28
  go_wp2
  go_ret
  exact ⟨_, rfl, Nat.le_refl _, HO.out, HB.out⟩
end Go.Proofs.YtfdikkdbmlcjiaaGreatDoor.M
end
section
namespace Go.Proofs.YtfdikkdbmlcjiaaGreatDoor.M
open Go.RowKit Go.Proofs.YtfdikkdbmlcjiaaGreatDoorW.PrintWords
set_option linter.unusedVariables false
theorem le_rounds {α : Type} {g : Nat → Option α} (hm : ∀ k, LeO (g k) (g (k + 1))) {k : Nat} {r : α} (h : g k = some r) : ∀ {m : Nat}, k ≤ m → g m = some r := by
  intro m hk
  induction m with
  | zero => obtain rfl : k = 0 := by omega
            exact h
  | succ m ih =>
    by_cases e : k = m + 1
    · subst e; exact h
    · exact hm m r (ih (by omega))
theorem and_mask (a : Int) (i : Nat) (hi : i ≤ 32) (m : Int) (hm : m = 2 ^ i - 1) : Go.bits .and .i64 a m = a % 2 ^ i := by
  have hpos : 0 < 2 ^ i := Nat.two_pow_pos i
  have hle : 2 ^ i ≤ 2 ^ 32 := Nat.pow_le_pow_right (by decide) hi
  obtain ⟨p, hp⟩ : ∃ p : Nat, 2 ^ i = p := ⟨_, rfl⟩
  have hc : m = ((2 ^ i - 1 : Nat) : Int) := by rw [hm, Int.natCast_sub hpos]; simp
  have e1 : (BitVec.ofInt 64 a).toNat = (a % (2 ^ 64 : Nat)).toNat := BitVec.toNat_ofInt a
  have e2 : (BitVec.ofInt 64 m).toNat = 2 ^ i - 1 := by
    rw [hc, BitVec.ofInt_natCast, BitVec.toNat_ofNat, Nat.mod_eq_of_lt]; rw [hp] at hle ⊢; omega
  have e3 : (BitVec.ofInt 64 a &&& BitVec.ofInt 64 m).toNat = (a % (2 ^ 64 : Nat)).toNat % 2 ^ i := by
    rw [BitVec.toNat_and, e1, e2, Nat.and_two_pow_sub_one_eq_mod]
  have e4 : Go.bits .and .i64 a m = IntKind.i64.wrap (((a % (2 ^ 64 : Nat)).toNat % 2 ^ i : Nat) : Int) := by
    show IntKind.i64.wrap _ = _
    exact congrArg (fun n : Nat => IntKind.i64.wrap (n : Int)) e3
  rw [e4, IntKind.wrap_i64]
  have hdv : (2 ^ i : Nat) ∣ (2 ^ 64 : Nat) := Nat.pow_dvd_pow 2 (by omega)
  have h1 : (((a % (2 ^ 64 : Nat)).toNat % 2 ^ i : Nat) : Int) = a % ((2 ^ i : Nat) : Int) := by
    rw [Int.natCast_emod, Int.toNat_of_nonneg (Int.emod_nonneg _ (by decide))]
    exact Int.emod_emod_of_dvd a (Int.natCast_dvd_natCast.2 hdv)
  rw [h1]
  have h2 : ((2 ^ i : Nat) : Int) = (2 : Int) ^ i := by simp
  rw [← h2, hp]
  have h3 := Int.emod_nonneg a (show (p : Int) ≠ 0 by omega)
  have h4 := Int.emod_lt_of_pos a (show (0 : Int) < p by omega)
  omega
theorem ba_eta (a : ByteArray) : a = ⟨a.data.toList.toArray⟩ := by cases a; rfl
theorem toList_data (a : ByteArray) : a.toList = a.data.toList := ByteArray.toList_eq a
theorem ext_from (a : ByteArray) (i : Nat) : a.extract i a.size = ⟨(a.data.toList.drop i).toArray⟩ := by
  rw [ba_eta (a.extract i a.size), Lib.extract_to_end]
theorem bt_get (a : ByteArray) (i : Nat) (h : i < a.size) : bt a (i : Int) = (a.data.toList[i]'(by simpa using h)).toNat := by
  unfold bt
  simp only [Int.toNat_natCast, h, dif_pos]
  rfl
theorem ba_size (l : List UInt8) : (⟨l.toArray⟩ : ByteArray).size = l.length := by show l.toArray.size = _; simp
theorem ba_list (l : List UInt8) : (⟨l.toArray⟩ : ByteArray).data.toList = l := by simp
theorem ba_toList (l : List UInt8) : (⟨l.toArray⟩ : ByteArray).toList = l := by rw [toList_data, ba_list]
theorem size_list (s : ByteArray) : s.size = s.data.toList.length := rfl
theorem ext_mid (s : ByteArray) (i j : Nat) : s.extract i j = ⟨((s.data.toList.drop i).take (j - i)).toArray⟩ := by
  rw [ba_eta (s.extract i j), Lib.extract_data]
theorem wrap_small {x : Int} (h0 : 0 ≤ x) (h1 : x < 9223372036854775808) : wrap64 x = x := by unfold wrap64; omega
end Go.Proofs.YtfdikkdbmlcjiaaGreatDoor.M
end
section
namespace Go.Proofs
open Go.Shelf
def Tryz.lays169_ren : Go.Shelf.Ren := ⟨fun | 169 => 31 | n => n, fun | 70 => 55 | 9 => 9 | 0 => 0 | 72 => 57 | 37 => 35 | 127 => 82 | 3 => 3 | 5 => 5 | n => n, fun | n => n⟩
theorem Tryz.lays169 : Go.Proofs.Lays.n169 Tryz.prog Tryz.lays169_ren := {
  mixed := by kernel_rfl
  f169 := Tryz.func31.trans (congrArg some (by kernel_rfl))
  t0 := Tryz.underlying0
  a0 := Tryz.isAgg0
  z0 := Tryz.sizeOf0
  v0 := Tryz.zeroValue0
  t3 := Tryz.underlying3
  a3 := Tryz.isAgg3
  z3 := Tryz.sizeOf3
  v3 := Tryz.zeroValue3
  t9 := Tryz.underlying9
  a9 := Tryz.isAgg9
  z9 := Tryz.sizeOf9
  v9 := Tryz.zeroValue9
  t37 := Tryz.underlying35
  a37 := Tryz.isAgg35
  z37 := Tryz.sizeOf35
  v37 := Tryz.zeroValue35
  t70 := Tryz.underlying55
  a70 := Tryz.isAgg55
  z70 := Tryz.sizeOf55
  v70 := Tryz.zeroValue55
  t72 := Tryz.underlying57
  a72 := Tryz.isAgg57
  z72 := Tryz.sizeOf57
  v72 := Tryz.zeroValue57
  t127 := Tryz.underlying82
  a127 := Tryz.isAgg82
  z127 := Tryz.sizeOf82
  v127 := Tryz.zeroValue82 }
theorem Tryz.Builder_Extra_169 : Builder.Extra Tryz.prog Tryz.lays169_ren := {
  sizeBuilder := by kernel_rfl
  liesBuilder := by kernel_rfl
  t5 := Tryz.underlying5
  a5 := Tryz.isAgg5
  z5 := Tryz.sizeOf5
  v5 := Tryz.zeroValue5
  infoByte := by kernel_rfl
  cellsByte := by kernel_rfl
  sizeByte := by kernel_rfl
  neB5 := by decide }
def Tryz.lays156_ren : Go.Shelf.Ren := ⟨fun | 156 => 15 | 165 => 29 | 166 => 30 | 169 => 31 | 240 => 47 | 241 => 48 | 276 => 58 | 277 => 59 | n => n, fun | 31 => 40 | 9 => 9 | 3 => 3 | 4 => 4 | 0 => 0 | 20 => 20 | 72 => 57 | 76 => 61 | 70 => 55 | 37 => 35 | 75 => 60 | 127 => 82 | 164 => 90 | 5 => 5 | 80 => 63 | n => n, fun | n => n⟩
theorem Tryz.lays156 : Go.Proofs.Lays.n156 Tryz.prog Tryz.lays156_ren := {
  mixed := by kernel_rfl
  f156 := Tryz.func15.trans (congrArg some (by kernel_rfl))
  f165 := Tryz.func29.trans (congrArg some (by kernel_rfl))
  f166 := Tryz.func30.trans (congrArg some (by kernel_rfl))
  f169 := Tryz.func31.trans (congrArg some (by kernel_rfl))
  f240 := Tryz.func47.trans (congrArg some (by kernel_rfl))
  f241 := Tryz.func48.trans (congrArg some (by kernel_rfl))
  f276 := Tryz.func58.trans (congrArg some (by kernel_rfl))
  f277 := Tryz.func59.trans (congrArg some (by kernel_rfl))
  t0 := Tryz.underlying0
  a0 := Tryz.isAgg0
  z0 := Tryz.sizeOf0
  v0 := Tryz.zeroValue0
  t3 := Tryz.underlying3
  a3 := Tryz.isAgg3
  z3 := Tryz.sizeOf3
  v3 := Tryz.zeroValue3
  t4 := Tryz.underlying4
  a4 := Tryz.isAgg4
  z4 := Tryz.sizeOf4
  v4 := Tryz.zeroValue4
  t9 := Tryz.underlying9
  a9 := Tryz.isAgg9
  z9 := Tryz.sizeOf9
  v9 := Tryz.zeroValue9
  t20 := Tryz.underlying20
  a20 := Tryz.isAgg20
  z20 := Tryz.sizeOf20
  v20 := Tryz.zeroValue20
  t31 := Tryz.underlying40
  a31 := Tryz.isAgg40
  z31 := Tryz.sizeOf40
  v31 := Tryz.zeroValue40
  t37 := Tryz.underlying35
  a37 := Tryz.isAgg35
  z37 := Tryz.sizeOf35
  v37 := Tryz.zeroValue35
  t70 := Tryz.underlying55
  a70 := Tryz.isAgg55
  z70 := Tryz.sizeOf55
  v70 := Tryz.zeroValue55
  t72 := Tryz.underlying57
  a72 := Tryz.isAgg57
  z72 := Tryz.sizeOf57
  v72 := Tryz.zeroValue57
  t75 := Tryz.underlying60
  a75 := Tryz.isAgg60
  z75 := Tryz.sizeOf60
  v75 := Tryz.zeroValue60
  t76 := Tryz.underlying61
  a76 := Tryz.isAgg61
  z76 := Tryz.sizeOf61
  v76 := Tryz.zeroValue61
  t127 := Tryz.underlying82
  a127 := Tryz.isAgg82
  z127 := Tryz.sizeOf82
  v127 := Tryz.zeroValue82
  t164 := Tryz.underlying90
  a164 := Tryz.isAgg90
  z164 := Tryz.sizeOf90
  v164 := Tryz.zeroValue90 }
theorem Tryz.Builder_Extra_156 : Builder.Extra Tryz.prog Tryz.lays156_ren := {
  sizeBuilder := by kernel_rfl
  liesBuilder := by kernel_rfl
  t5 := Tryz.underlying5
  a5 := Tryz.isAgg5
  z5 := Tryz.sizeOf5
  v5 := Tryz.zeroValue5
  infoByte := by kernel_rfl
  cellsByte := by kernel_rfl
  sizeByte := by kernel_rfl
  neB5 := by decide }
open Go.RowKit in
/-- No element: the empty string; the world is as it was. (Whatever the slice's address and capacity: a nil slice too.) (LAID: no walk: one application.) -/
theorem Tryz.strings_Join_none (a : Option Addr) (c : Nat) (sep : ByteArray) (w : World) :
    Calls Tryz.prog 15 #[.slice a 0 c, .string sep] w fun e w' => e = .returned (.string ⟨#[]⟩) ∧ w' = w := Any.strings_Join_none Tryz.lays156 Tryz.Builder_Extra_156 a c sep w
open Go.RowKit in
/-- strings.Join: "Join concatenates the elements of its first argument to create a single string. The separator string sep is placed between elements in the resulting string.": HOWEVER MANY ELEMENTS. Below the heap's end the world is as it was. (LAID: no walk: one application.) -/
theorem Tryz.strings_Join (bk o c : Nat) (xs : List ByteArray) (sep : ByteArray) (w : World) (hcells : ∀ (j : Nat) x, xs[j]? = some x → w.cell? ⟨bk, o + j, none⟩ = some (.string x)) (hbk : bk < w.heap.size) (hN : xs.length ≤ 140737488355328) (hcap : xs.length ≤ c) (hlen : (Lib.join (xs.map (·.data.toList)) sep.data.toList).length ≤ 140737488355328) :
    Calls Tryz.prog 15 #[.slice (some ⟨bk, o, none⟩) xs.length c, .string sep] w fun e w' => e = .returned (.string ⟨(Lib.join (xs.map (·.data.toList)) sep.data.toList).toArray⟩) ∧ Below w.heap.size w w' := Any.strings_Join Tryz.lays156 Tryz.Builder_Extra_156 bk o c xs sep w hcells hbk hN hcap hlen
def Tryz.lays160_ren : Go.Shelf.Ren := ⟨fun | 160 => 62 | 232 => 75 | 231 => 74 | 227 => 76 | 234 => 78 | 233 => 77 | 236 => 80 | 235 => 79 | 228 => 92 | 271 => 95 | 151 => 94 | 197 => 93 | 120 => 104 | 152 => 103 | 260 => 102 | 137 => 35 | 119 => 105 | 224 => 72 | 225 => 71 | 217 => 50 | 266 => 60 | n => n, fun | 9 => 9 | 4 => 4 | 3 => 3 | 5 => 5 | 117 => 109 | 116 => 108 | 0 => 0 | 124 => 112 | 21 => 21 | 105 => 137 | 46 => 72 | 119 => 151 | 139 => 154 | 138 => 153 | n => n, fun | 3 => 6 | 4 => 7 | n => n⟩
theorem Tryz.lays160 : Go.Proofs.Lays.n160 Tryz.prog Tryz.lays160_ren := {
  mixed := by kernel_rfl
  f119 := Tryz.func105.trans (congrArg some (by kernel_rfl))
  f120 := Tryz.func104.trans (congrArg some (by kernel_rfl))
  f137 := Tryz.func35.trans (congrArg some (by kernel_rfl))
  f151 := Tryz.func94.trans (congrArg some (by kernel_rfl))
  f152 := Tryz.func103.trans (congrArg some (by kernel_rfl))
  f160 := Tryz.func62.trans (congrArg some (by kernel_rfl))
  f197 := Tryz.func93.trans (congrArg some (by kernel_rfl))
  f217 := Tryz.func50.trans (congrArg some (by kernel_rfl))
  f224 := Tryz.func72.trans (congrArg some (by kernel_rfl))
  f225 := Tryz.func71.trans (congrArg some (by kernel_rfl))
  f227 := Tryz.func76.trans (congrArg some (by kernel_rfl))
  f228 := Tryz.func92.trans (congrArg some (by kernel_rfl))
  f231 := Tryz.func74.trans (congrArg some (by kernel_rfl))
  f232 := Tryz.func75.trans (congrArg some (by kernel_rfl))
  f233 := Tryz.func77.trans (congrArg some (by kernel_rfl))
  f234 := Tryz.func78.trans (congrArg some (by kernel_rfl))
  f235 := Tryz.func79.trans (congrArg some (by kernel_rfl))
  f236 := Tryz.func80.trans (congrArg some (by kernel_rfl))
  f260 := Tryz.func102.trans (congrArg some (by kernel_rfl))
  f266 := Tryz.func60.trans (congrArg some (by kernel_rfl))
  f271 := Tryz.func95.trans (congrArg some (by kernel_rfl))
  t0 := Tryz.underlying0
  a0 := Tryz.isAgg0
  z0 := Tryz.sizeOf0
  v0 := Tryz.zeroValue0
  t3 := Tryz.underlying3
  a3 := Tryz.isAgg3
  z3 := Tryz.sizeOf3
  v3 := Tryz.zeroValue3
  t4 := Tryz.underlying4
  a4 := Tryz.isAgg4
  z4 := Tryz.sizeOf4
  v4 := Tryz.zeroValue4
  t5 := Tryz.underlying5
  a5 := Tryz.isAgg5
  z5 := Tryz.sizeOf5
  v5 := Tryz.zeroValue5
  t9 := Tryz.underlying9
  a9 := Tryz.isAgg9
  z9 := Tryz.sizeOf9
  v9 := Tryz.zeroValue9
  t21 := Tryz.underlying21
  a21 := Tryz.isAgg21
  z21 := Tryz.sizeOf21
  v21 := Tryz.zeroValue21
  t46 := Tryz.underlying72
  a46 := Tryz.isAgg72
  z46 := Tryz.sizeOf72
  v46 := Tryz.zeroValue72
  t105 := Tryz.underlying137
  a105 := Tryz.isAgg137
  z105 := Tryz.sizeOf137
  v105 := Tryz.zeroValue137
  t116 := Tryz.underlying108
  a116 := Tryz.isAgg108
  z116 := Tryz.sizeOf108
  t117 := Tryz.underlying109
  a117 := Tryz.isAgg109
  z117 := Tryz.sizeOf109
  v117 := Tryz.zeroValue109
  t119 := Tryz.underlying151
  a119 := Tryz.isAgg151
  z119 := Tryz.sizeOf151
  t124 := Tryz.underlying112
  a124 := Tryz.isAgg112
  z124 := Tryz.sizeOf112
  v124 := Tryz.zeroValue112
  t138 := Tryz.underlying153
  a138 := Tryz.isAgg153
  z138 := Tryz.sizeOf153
  v138 := Tryz.zeroValue153
  t139 := Tryz.underlying154
  a139 := Tryz.isAgg154
  z139 := Tryz.sizeOf154
  v139 := Tryz.zeroValue154
  g3 := by kernel_rfl
  g4 := by kernel_rfl }
def Tryz.lays137_ren : Go.Shelf.Ren := ⟨fun | 137 => 35 | 217 => 50 | 266 => 60 | n => n, fun | 9 => 9 | 5 => 5 | 3 => 3 | n => n, fun | n => n⟩
theorem Tryz.lays137 : Go.Proofs.Lays.n137 Tryz.prog Tryz.lays137_ren := {
  mixed := by kernel_rfl
  f137 := Tryz.func35.trans (congrArg some (by kernel_rfl))
  f217 := Tryz.func50.trans (congrArg some (by kernel_rfl))
  f266 := Tryz.func60.trans (congrArg some (by kernel_rfl))
  t3 := Tryz.underlying3
  a3 := Tryz.isAgg3
  z3 := Tryz.sizeOf3
  v3 := Tryz.zeroValue3
  t5 := Tryz.underlying5
  a5 := Tryz.isAgg5
  z5 := Tryz.sizeOf5
  v5 := Tryz.zeroValue5
  t9 := Tryz.underlying9
  a9 := Tryz.isAgg9
  z9 := Tryz.sizeOf9
  v9 := Tryz.zeroValue9 }
open Go.RowKit in
/-- strings.IndexByte: "IndexByte returns the index of the first instance of c in s, or -1 if c is not present in s.": IT RETURNS 'Lib.indexByte s c'; the world is as it was. (LAID: no walk: one application.) -/
theorem Tryz.strings_IndexByte (s : ByteArray) (c : Int) (w : World) :
    Calls Tryz.prog 35 #[.string s, .int .u8 c] w fun e w' => e = .returned (.int .i64 (Lib.indexByte s.data.toList c.toNat.toUInt8)) ∧ w' = w := Any.strings_IndexByte Tryz.lays137 s c w
open Go.RowKit in
/-- (*strings.Builder).String: "String returns the accumulated string.": WHATEVER THE BUILDER HOLDS; THE FORM '_k': OVER 'Lib.IsBuilderF' (a builder that 'String()' may have read), AND WITH THE FRAME THAT REACHES ABOVE THE BUILDER: 'Lib.OthersKept': every block that is not b and is no row of uint8's stands as it stood: the iterator of a range among them. (LAID: no walk: one application.) -/
theorem Tryz.Builder_String_any_k (B b : Nat) (l : List UInt8) (w : World) (h : Lib.IsBuilderF 57 5 B b (Lib.byteCells l) w) (hBw : B ≤ w.heap.size) :
    Calls Tryz.prog 31 #[.pointer (some ⟨b, 0, none⟩)] w fun e w' => e = .returned (.string ⟨l.toArray⟩) ∧ (Lib.IsBuilderF 57 5 B b (Lib.byteCells l) w' ∧ Below B w w' ∧ Lib.OthersKept 5 (some b) w w') := Any.Builder_String_any_k Tryz.lays169 Tryz.Builder_Extra_169 B b l w h hBw
def Tryz.laysC174_ren : Go.Shelf.Ren := ⟨fun | 174 => 55 | 247 => 63 | 245 => 64 | 287 => 81 | 279 => 82 | 280 => 83 | 281 => 84 | 282 => 85 | 321 => 96 | 322 => 97 | 316 => 98 | 171 => 24 | 205 => 99 | 243 => 45 | 246 => 57 | 283 => 67 | 284 => 68 | 285 => 69 | 286 => 70 | 129 => 87 | 317 => 86 | 318 => 88 | 319 => 89 | 320 => 90 | 337 => 100 | 338 => 101 | n => n, fun | 9 => 9 | 3 => 3 | 2 => 2 | 75 => 60 | 85 => 86 | 4 => 4 | 167 => 113 | 5 => 5 | 53 => 101 | 175 => 114 | 46 => 72 | 168 => 116 | 37 => 35 | 0 => 0 | 210 => 142 | 21 => 21 | 127 => 82 | 145 => 148 | 143 => 146 | 171 => 100 | 173 => 104 | 212 => 131 | 51 => 132 | 20 => 20 | 213 => 133 | 232 => 149 | 233 => 150 | 80 => 63 | n => n, fun | 15 => 3 | 16 => 0 | 17 => 2 | 18 => 4 | 19 => 5 | n => n⟩
theorem Tryz.laysC174 : Go.Proofs.LaysC.n174 Tryz.prog Tryz.laysC174_ren := {
  mixed := by kernel_rfl
  f129 := Tryz.func87.trans (congrArg some (by kernel_rfl))
  f171 := Tryz.func24.trans (congrArg some (by kernel_rfl))
  f174 := Tryz.func55.trans (congrArg some (by kernel_rfl))
  f205 := Tryz.func99.trans (congrArg some (by kernel_rfl))
  f243 := Tryz.func45.trans (congrArg some (by kernel_rfl))
  f245 := Tryz.func64.trans (congrArg some (by kernel_rfl))
  f246 := Tryz.func57.trans (congrArg some (by kernel_rfl))
  f247 := Tryz.func63.trans (congrArg some (by kernel_rfl))
  f279 := Tryz.func82.trans (congrArg some (by kernel_rfl))
  f280 := Tryz.func83.trans (congrArg some (by kernel_rfl))
  f281 := Tryz.func84.trans (congrArg some (by kernel_rfl))
  f282 := Tryz.func85.trans (congrArg some (by kernel_rfl))
  f283 := Tryz.func67.trans (congrArg some (by kernel_rfl))
  f284 := Tryz.func68.trans (congrArg some (by kernel_rfl))
  f285 := Tryz.func69.trans (congrArg some (by kernel_rfl))
  f286 := Tryz.func70.trans (congrArg some (by kernel_rfl))
  f287 := Tryz.func81.trans (congrArg some (by kernel_rfl))
  f316 := Tryz.func98.trans (congrArg some (by kernel_rfl))
  f317 := Tryz.func86.trans (congrArg some (by kernel_rfl))
  f318 := Tryz.func88.trans (congrArg some (by kernel_rfl))
  f319 := Tryz.func89.trans (congrArg some (by kernel_rfl))
  f320 := Tryz.func90.trans (congrArg some (by kernel_rfl))
  f321 := Tryz.func96.trans (congrArg some (by kernel_rfl))
  f322 := Tryz.func97.trans (congrArg some (by kernel_rfl))
  f337 := Tryz.func100.trans (congrArg some (by kernel_rfl))
  f338 := Tryz.func101.trans (congrArg some (by kernel_rfl))
  t0 := Tryz.underlying0
  a0 := Tryz.isAgg0
  z0 := Tryz.sizeOf0
  v0 := Tryz.zeroValue0
  t2 := Tryz.underlying2
  a2 := Tryz.isAgg2
  z2 := Tryz.sizeOf2
  v2 := Tryz.zeroValue2
  t3 := Tryz.underlying3
  a3 := Tryz.isAgg3
  z3 := Tryz.sizeOf3
  v3 := Tryz.zeroValue3
  t4 := Tryz.underlying4
  a4 := Tryz.isAgg4
  z4 := Tryz.sizeOf4
  v4 := Tryz.zeroValue4
  t5 := Tryz.underlying5
  a5 := Tryz.isAgg5
  z5 := Tryz.sizeOf5
  v5 := Tryz.zeroValue5
  t9 := Tryz.underlying9
  a9 := Tryz.isAgg9
  z9 := Tryz.sizeOf9
  v9 := Tryz.zeroValue9
  t20 := Tryz.underlying20
  a20 := Tryz.isAgg20
  z20 := Tryz.sizeOf20
  v20 := Tryz.zeroValue20
  t21 := Tryz.underlying21
  a21 := Tryz.isAgg21
  z21 := Tryz.sizeOf21
  v21 := Tryz.zeroValue21
  t37 := Tryz.underlying35
  a37 := Tryz.isAgg35
  z37 := Tryz.sizeOf35
  v37 := Tryz.zeroValue35
  t46 := Tryz.underlying72
  a46 := Tryz.isAgg72
  z46 := Tryz.sizeOf72
  v46 := Tryz.zeroValue72
  t51 := Tryz.underlying132
  a51 := Tryz.isAgg132
  z51 := Tryz.sizeOf132
  v51 := Tryz.zeroValue132
  t53 := Tryz.underlying101
  a53 := Tryz.isAgg101
  z53 := Tryz.sizeOf101
  v53 := Tryz.zeroValue101
  t75 := Tryz.underlying60
  a75 := Tryz.isAgg60
  z75 := Tryz.sizeOf60
  v75 := Tryz.zeroValue60
  t85 := Tryz.underlying86
  a85 := Tryz.isAgg86
  z85 := Tryz.sizeOf86
  v85 := Tryz.zeroValue86
  t127 := Tryz.underlying82
  a127 := Tryz.isAgg82
  z127 := Tryz.sizeOf82
  v127 := Tryz.zeroValue82
  t143 := Tryz.underlying146
  a143 := Tryz.isAgg146
  z143 := Tryz.sizeOf146
  v143 := Tryz.zeroValue146
  t145 := Tryz.underlying148
  a145 := Tryz.isAgg148
  z145 := Tryz.sizeOf148
  v145 := Tryz.zeroValue148
  t167 := Tryz.underlying113
  a167 := Tryz.isAgg113
  z167 := Tryz.sizeOf113
  v167 := Tryz.zeroValue113
  t168 := Tryz.underlying116
  a168 := Tryz.isAgg116
  z168 := Tryz.sizeOf116
  v168 := Tryz.zeroValue116
  t171 := Tryz.underlying100
  a171 := Tryz.isAgg100
  z171 := Tryz.sizeOf100
  v171 := Tryz.zeroValue100
  t173 := Tryz.underlying104
  a173 := Tryz.isAgg104
  z173 := Tryz.sizeOf104
  v173 := Tryz.zeroValue104
  t175 := Tryz.underlying114
  a175 := Tryz.isAgg114
  z175 := Tryz.sizeOf114
  v175 := Tryz.zeroValue114
  t210 := Tryz.underlying142
  a210 := Tryz.isAgg142
  z210 := Tryz.sizeOf142
  v210 := Tryz.zeroValue142
  t212 := Tryz.underlying131
  a212 := Tryz.isAgg131
  z212 := Tryz.sizeOf131
  v212 := Tryz.zeroValue131
  t213 := Tryz.underlying133
  a213 := Tryz.isAgg133
  z213 := Tryz.sizeOf133
  t232 := Tryz.underlying149
  a232 := Tryz.isAgg149
  z232 := Tryz.sizeOf149
  v232 := Tryz.zeroValue149
  t233 := Tryz.underlying150
  a233 := Tryz.isAgg150
  z233 := Tryz.sizeOf150
  v233 := Tryz.zeroValue150
  g15 := by kernel_rfl
  g16 := by kernel_rfl
  g17 := by kernel_rfl
  g18 := by kernel_rfl
  g19 := by kernel_rfl
  t80 := Tryz.underlying63
  a80 := Tryz.isAgg63
  z80 := Tryz.sizeOf63
  v80 := Tryz.zeroValue63
  i0 := by kernel_rfl
  i2 := by kernel_rfl
  i3 := by kernel_rfl
  i4 := by kernel_rfl
  i5 := by kernel_rfl
  i9 := by kernel_rfl
  i20 := by kernel_rfl
  i21 := by kernel_rfl
  i37 := by kernel_rfl
  i46 := by kernel_rfl
  i51 := by kernel_rfl
  i53 := by kernel_rfl
  i75 := by kernel_rfl
  i80 := by kernel_rfl
  i85 := by kernel_rfl
  i127 := by kernel_rfl
  i143 := by kernel_rfl
  i145 := by kernel_rfl
  i167 := by kernel_rfl
  i168 := by kernel_rfl
  i171 := by kernel_rfl
  i173 := by kernel_rfl
  i175 := by kernel_rfl
  i210 := by kernel_rfl
  i212 := by kernel_rfl
  i232 := by kernel_rfl
  i233 := by kernel_rfl
  m15 := by kernel_rfl
  m16 := by kernel_rfl
  m17 := by kernel_rfl
  m18 := by kernel_rfl
  m19 := by kernel_rfl
  c0 := by kernel_rfl
  c2 := by kernel_rfl
  c3 := by kernel_rfl
  c4 := by kernel_rfl
  c5 := by kernel_rfl
  c9 := by kernel_rfl
  c20 := by kernel_rfl
  c21 := by kernel_rfl
  c37 := by kernel_rfl
  c46 := by kernel_rfl
  c51 := by kernel_rfl
  c53 := by kernel_rfl
  c75 := by kernel_rfl
  c80 := by kernel_rfl
  c85 := by kernel_rfl
  c127 := by kernel_rfl
  c143 := by kernel_rfl
  c145 := by kernel_rfl
  c167 := by kernel_rfl
  c168 := by kernel_rfl
  c171 := by kernel_rfl
  c173 := by kernel_rfl
  c175 := by kernel_rfl
  c210 := by kernel_rfl
  c212 := by kernel_rfl
  c213 := by kernel_rfl
  c232 := by kernel_rfl
  c233 := by kernel_rfl }
open Go.RowKit in
/-- strconv.ParseInt(s, 10, 32), AT EVERY STRING THAT SPELLS AN int32 ('Lib.parseIntB 32 s.data.toList = .ok v'): v, AND NO ERROR. (LAID: no walk: one application.) -/
theorem Tryz.strconv_ParseInt_10_at32_ok (s : ByteArray) (hmax : s.size ≤ 9223372036854775806) (v : Int) (h : Lib.parseIntB 32 s.data.toList = .ok v) (w : World) :
    Calls Tryz.prog 55 #[.string s, .int .i64 10, .int .i64 32] w fun e w' => e = .returned (.tuple #[.int .i64 v, .nilIface]) ∧ (w' = w ∨ ∃ t, w' = Lib.bytesWorld w 5 t) := Any.strconv_ParseInt_10_at32_ok Tryz.laysC174 s hmax v h w
open Go.RowKit in
/-- strconv.ParseInt(s, 10, 32), AT EVERY NUMERAL THAT NO int32 HOLDS: THE GREATEST OR THE LEAST int32, BY THE SIGN ('Lib.intSat 32'), AND AN ERROR THAT IS NOT nil: a *NumError in a new block N: {Func: "ParseInt", Num: s's bytes, Err: what the variable ErrRange holds}. Of what was there nothing has turned. (LAID: no walk: one application.) -/
theorem Tryz.strconv_ParseInt_10_at32_range (s : ByteArray) (hlim : s.size ≤ 281474976710656) (h : Lib.parseIntB 32 s.data.toList = .range) (ev : Value) (w : World) (hv : w.cell? ⟨0, 0, none⟩ = some ev) (hev : ev = .nilIface ∨ ∃ te pe, ev = .iface te pe) :
    Calls Tryz.prog 55 #[.string s, .int .i64 10, .int .i64 32] w fun e w' => ∃ N, e = .returned (.tuple #[.int .i64 (Lib.intSat 32 s.data.toList), .iface 116 (.pointer (some ⟨N, 0, none⟩))]) ∧ w.heap.size ≤ N ∧ w'.heap[N]? = some (.cells #[.string ⟨#[80, 97, 114, 115, 101, 73, 110, 116]⟩, .string s, ev] 142 (0, 0)) ∧ Below w.heap.size w w' := Any.strconv_ParseInt_10_at32_range Tryz.laysC174 s hlim h ev w hv hev
def Tryz.lays145_ren : Go.Shelf.Ren := ⟨fun | 145 => 40 | 220 => 52 | 219 => 61 | 217 => 50 | 225 => 71 | 224 => 72 | 267 => 73 | 266 => 60 | 314 => 91 | n => n, fun | 9 => 9 | 4 => 4 | 59 => 73 | 3 => 3 | 5 => 5 | 46 => 72 | 146 => 135 | 51 => 132 | n => n, fun | 1 => 1 | n => n⟩
theorem Tryz.lays145 : Go.Proofs.Lays.n145 Tryz.prog Tryz.lays145_ren := {
  mixed := by kernel_rfl
  f145 := Tryz.func40.trans (congrArg some (by kernel_rfl))
  f217 := Tryz.func50.trans (congrArg some (by kernel_rfl))
  f219 := Tryz.func61.trans (congrArg some (by kernel_rfl))
  f220 := Tryz.func52.trans (congrArg some (by kernel_rfl))
  f224 := Tryz.func72.trans (congrArg some (by kernel_rfl))
  f225 := Tryz.func71.trans (congrArg some (by kernel_rfl))
  f266 := Tryz.func60.trans (congrArg some (by kernel_rfl))
  f267 := Tryz.func73.trans (congrArg some (by kernel_rfl))
  f314 := Tryz.func91.trans (congrArg some (by kernel_rfl))
  t3 := Tryz.underlying3
  a3 := Tryz.isAgg3
  z3 := Tryz.sizeOf3
  v3 := Tryz.zeroValue3
  t4 := Tryz.underlying4
  a4 := Tryz.isAgg4
  z4 := Tryz.sizeOf4
  v4 := Tryz.zeroValue4
  t5 := Tryz.underlying5
  a5 := Tryz.isAgg5
  z5 := Tryz.sizeOf5
  v5 := Tryz.zeroValue5
  t9 := Tryz.underlying9
  a9 := Tryz.isAgg9
  z9 := Tryz.sizeOf9
  v9 := Tryz.zeroValue9
  t46 := Tryz.underlying72
  a46 := Tryz.isAgg72
  z46 := Tryz.sizeOf72
  v46 := Tryz.zeroValue72
  t51 := Tryz.underlying132
  a51 := Tryz.isAgg132
  z51 := Tryz.sizeOf132
  v51 := Tryz.zeroValue132
  t59 := Tryz.underlying73
  a59 := Tryz.isAgg73
  z59 := Tryz.sizeOf73
  v59 := Tryz.zeroValue73
  t146 := Tryz.underlying135
  a146 := Tryz.isAgg135
  z146 := Tryz.sizeOf135
  v146 := Tryz.zeroValue135
  g1 := by kernel_rfl }
open Go.RowKit Go.Lib in
/-- strings.Cut: "Cut slices s around the first instance of sep, returning the text before and after sep. The found result reports whether sep appears in s. If sep does not appear in s, cut returns s, "", false.": IT RETURNS 'Lib.cut s sep'; the world is as it was but for the count of draws. (LAID: no walk: one application.) -/
theorem Tryz.strings_Cut (s sep : ByteArray) (m : Int) (w : World) (hs : s.size < 4294967281) (hm : w.cell? ⟨1, 0, none⟩ = some (.int .i64 m)) :
    Calls Tryz.prog 40 #[.string s, .string sep] w fun e w' => e = .returned (.tuple #[.string ⟨(Lib.cut s.data.toList sep.data.toList).1.toArray⟩, .string ⟨(Lib.cut s.data.toList sep.data.toList).2.1.toArray⟩, .bool (Lib.cut s.data.toList sep.data.toList).2.2]) ∧ ∃ n, w' = w.drewN n := Any.strings_Cut Tryz.lays145 s sep m w hs hm
end Go.Proofs
end
section
namespace Go.Proofs
open Go.Shelf
def Tryz.laysM171_ren : Go.Shelf.Ren := ⟨fun | 171 => 24 | 243 => 45 | 246 => 57 | 283 => 67 | 284 => 68 | 285 => 69 | 286 => 70 | 129 => 87 | 317 => 86 | 318 => 88 | 319 => 89 | 320 => 90 | 337 => 100 | 338 => 101 | n => n, fun | 3 => 3 | 9 => 9 | 2 => 2 | 4 => 4 | 171 => 100 | 0 => 0 | 53 => 101 | 37 => 35 | 5 => 5 | 173 => 104 | 212 => 131 | 51 => 132 | 20 => 20 | 213 => 133 | 46 => 72 | 232 => 149 | 233 => 150 | n => n, fun | 17 => 2 | 18 => 4 | 19 => 5 | n => n⟩
theorem Tryz.laysM171 : Go.Proofs.LaysM.n171 Tryz.prog Tryz.laysM171_ren := {
  mixed := by kernel_rfl
  f129 := Tryz.func87.trans (congrArg some (by kernel_rfl))
  f171 := Tryz.func24.trans (congrArg some (by kernel_rfl))
  f243 := Tryz.func45.trans (congrArg some (by kernel_rfl))
  f246 := Tryz.func57.trans (congrArg some (by kernel_rfl))
  f283 := Tryz.func67.trans (congrArg some (by kernel_rfl))
  f284 := Tryz.func68.trans (congrArg some (by kernel_rfl))
  f285 := Tryz.func69.trans (congrArg some (by kernel_rfl))
  f286 := Tryz.func70.trans (congrArg some (by kernel_rfl))
  f317 := Tryz.func86.trans (congrArg some (by kernel_rfl))
  f318 := Tryz.func88.trans (congrArg some (by kernel_rfl))
  f319 := Tryz.func89.trans (congrArg some (by kernel_rfl))
  f320 := Tryz.func90.trans (congrArg some (by kernel_rfl))
  f337 := Tryz.func100.trans (congrArg some (by kernel_rfl))
  f338 := Tryz.func101.trans (congrArg some (by kernel_rfl))
  t0 := Tryz.underlying0
  a0 := Tryz.isAgg0
  z0 := Tryz.sizeOf0
  v0 := Tryz.zeroValue0
  t2 := Tryz.underlying2
  a2 := Tryz.isAgg2
  z2 := Tryz.sizeOf2
  v2 := Tryz.zeroValue2
  t3 := Tryz.underlying3
  a3 := Tryz.isAgg3
  z3 := Tryz.sizeOf3
  v3 := Tryz.zeroValue3
  t4 := Tryz.underlying4
  a4 := Tryz.isAgg4
  z4 := Tryz.sizeOf4
  v4 := Tryz.zeroValue4
  t5 := Tryz.underlying5
  a5 := Tryz.isAgg5
  z5 := Tryz.sizeOf5
  v5 := Tryz.zeroValue5
  t9 := Tryz.underlying9
  a9 := Tryz.isAgg9
  z9 := Tryz.sizeOf9
  v9 := Tryz.zeroValue9
  t20 := Tryz.underlying20
  a20 := Tryz.isAgg20
  z20 := Tryz.sizeOf20
  v20 := Tryz.zeroValue20
  t37 := Tryz.underlying35
  a37 := Tryz.isAgg35
  z37 := Tryz.sizeOf35
  v37 := Tryz.zeroValue35
  t46 := Tryz.underlying72
  a46 := Tryz.isAgg72
  z46 := Tryz.sizeOf72
  v46 := Tryz.zeroValue72
  t51 := Tryz.underlying132
  a51 := Tryz.isAgg132
  z51 := Tryz.sizeOf132
  v51 := Tryz.zeroValue132
  t53 := Tryz.underlying101
  a53 := Tryz.isAgg101
  z53 := Tryz.sizeOf101
  v53 := Tryz.zeroValue101
  t171 := Tryz.underlying100
  a171 := Tryz.isAgg100
  z171 := Tryz.sizeOf100
  v171 := Tryz.zeroValue100
  t173 := Tryz.underlying104
  a173 := Tryz.isAgg104
  z173 := Tryz.sizeOf104
  v173 := Tryz.zeroValue104
  t212 := Tryz.underlying131
  a212 := Tryz.isAgg131
  z212 := Tryz.sizeOf131
  v212 := Tryz.zeroValue131
  t213 := Tryz.underlying133
  a213 := Tryz.isAgg133
  z213 := Tryz.sizeOf133
  t232 := Tryz.underlying149
  a232 := Tryz.isAgg149
  z232 := Tryz.sizeOf149
  v232 := Tryz.zeroValue149
  t233 := Tryz.underlying150
  a233 := Tryz.isAgg150
  z233 := Tryz.sizeOf150
  v233 := Tryz.zeroValue150
  g17 := by kernel_rfl
  g18 := by kernel_rfl
  g19 := by kernel_rfl
  i0 := by kernel_rfl
  i2 := by kernel_rfl
  i3 := by kernel_rfl
  i4 := by kernel_rfl
  i5 := by kernel_rfl
  i9 := by kernel_rfl
  i20 := by kernel_rfl
  i37 := by kernel_rfl
  i46 := by kernel_rfl
  i51 := by kernel_rfl
  i53 := by kernel_rfl
  i171 := by kernel_rfl
  i173 := by kernel_rfl
  i212 := by kernel_rfl
  i232 := by kernel_rfl
  i233 := by kernel_rfl
  m17 := by kernel_rfl
  m18 := by kernel_rfl
  m19 := by kernel_rfl }
open Go.RowKit Go.Sort Go.Lib in
/-- strconv.Itoa: "Itoa is equivalent to FormatInt(int64(i), 10).": i's DECIMAL NUMERAL ('Lib.itoa': a '-' where i is negative, then the digits), FOR EVERY int. The world behind the call: the world before it, new blocks behind the heap (the library's 'var a [24]byte'), draws. (LAID: no walk: one application.) -/
theorem Tryz.strconv_Itoa (n : Int) (h0 : -9223372036854775808 ≤ n) (h1 : n ≤ 9223372036854775807) (w : World) (htab : Lib.TabIs Tryz.prog w "internal/strconv.uint64pow10" .u64 Lib.pow10Tab) :
    Calls Tryz.prog 24 #[.int .i64 n] w fun e w' => e = .returned (.string ⟨(Lib.itoa n).toArray⟩) ∧ ∃ k os, w' = grow (w.drewN k) os := Any.strconv_Itoa Tryz.laysM171 n h0 h1 w htab
def Tryz.lays107_ren : Go.Shelf.Ren := ⟨fun | 107 => 33 | 108 => 49 | n => n, fun | 28 => 67 | 3 => 3 | 4 => 4 | 0 => 0 | n => n, fun | n => n⟩
theorem Tryz.lays107 : Go.Proofs.Lays.n107 Tryz.prog Tryz.lays107_ren := {
  mixed := by kernel_rfl
  f107 := Tryz.func33.trans (congrArg some (by kernel_rfl))
  f108 := Tryz.func49.trans (congrArg some (by kernel_rfl))
  t0 := Tryz.underlying0
  a0 := Tryz.isAgg0
  z0 := Tryz.sizeOf0
  v0 := Tryz.zeroValue0
  t3 := Tryz.underlying3
  a3 := Tryz.isAgg3
  z3 := Tryz.sizeOf3
  v3 := Tryz.zeroValue3
  t4 := Tryz.underlying4
  a4 := Tryz.isAgg4
  z4 := Tryz.sizeOf4
  v4 := Tryz.zeroValue4
  t28 := Tryz.underlying67
  a28 := Tryz.isAgg67
  z28 := Tryz.sizeOf67
  v28 := Tryz.zeroValue67 }
open Go.Lib in
/-- slices.Contains at []int: "Contains reports whether v is present in s.": IT RETURNS 'elements.contains v'; the world is as it was. ITS CALLEE slices.Index IS MET BY ITS OWN CONTRACT OFF THE SHELF (lay that first): no loop is walked here. (LAID: no walk: one application.) -/
theorem Tryz.slices_Contains_int (b off n c : Nat) (zs : List Int) (x : Int) (w : World) (hz : n ≤ zs.length) (hbig : n ≤ 9223372036854775807) (hc : ∀ j, j < zs.length → w.cell? ⟨b, off + j, none⟩ = some (.int .i64 (zs.getD j 0))) :
    Calls Tryz.prog 33 #[.slice (some ⟨b, off, none⟩) n c, .int .i64 x] w fun e w' => e = .returned (.bool ((zs.take n).contains x)) ∧ w' = w := Any.slices_Contains_int Tryz.lays107 b off n c zs x w hz hbig hc
end Go.Proofs
end
section
namespace Go.Proofs.YtfdikkdbmlcjiaaGreatDoor.M
open Go.RowKit Go.Proofs.YtfdikkdbmlcjiaaGreatDoorW.PrintWords
set_option linter.unusedVariables false
def strconv_Itoa.f (a0 : Int) : Option ByteArray := if -9223372036854775808 ≤ a0 ∧ a0 ≤ 9223372036854775807 then some ⟨(Lib.itoa a0).toArray⟩ else none
theorem strconv_Itoa.calls (a0 : Int) (r : ByteArray) (w : World) (hG : GW w) (h : strconv_Itoa.f a0 = some r) :
    Calls Tryz.prog 24 #[.int .i64 a0] w fun e w' => e = .returned (.string r) ∧ Below w.heap.size w w' := by
  unfold strconv_Itoa.f at h
  split at h
  case isFalse => cases h
  rename_i hb
  obtain rfl := Option.some.inj h
  refine (Tryz.strconv_Itoa a0 hb.1 hb.2 w hG.pow).mono ?_
  rintro e w' ⟨rfl, k, os, rfl⟩
  exact ⟨rfl, Lib.below_grow _ w (Nat.le_refl _) k os⟩
end Go.Proofs.YtfdikkdbmlcjiaaGreatDoor.M
end
section
namespace Go.Proofs.YtfdikkdbmlcjiaaGreatDoor.M
open Go.RowKit Go.Proofs.YtfdikkdbmlcjiaaGreatDoorW.PrintWords
set_option linter.unusedVariables false
theorem bd_size : (Tryz.prog.info? 57).map (·.size) = some 2 := by kernel_rfl
theorem bd_lies : liesAt Tryz.prog Tryz.prog.depth 57 (2 / Tryz.prog.cellsOf 57) 0 57 1 = true := by kernel_rfl
theorem bd_byte : (Tryz.prog.info? 5).map (fun i => (i.zero, i.size, i.bytes)) = some (some (.int .u8 0), 1, 1) := by kernel_rfl
/-- A builder of the call's own, in block b, that holds the bytes l. -/
abbrev IsBd (B b : Nat) (l : List UInt8) (w : World) : Prop := Lib.IsBuilderF 57 5 B b (Lib.byteCells l) w
set_option maxHeartbeats 1000000 in
set_option maxRecDepth 100000 in
theorem copyCheck_used (b : Nat) (w : World) (h0 : w.cell? ⟨b, 0, none⟩ = some (.pointer (some ⟨b, 0, none⟩))) :
    Calls Tryz.prog 47 #[.pointer (some ⟨b, 0, none⟩)] w fun e w' => e = .returned (.tuple #[]) ∧ w' = w := by
  obtain ⟨j, hj, _⟩ := Option.map_eq_some_iff.1 bd_size
  go_enter Tryz.func47, Tryz.ntmps47
  go_wp2
  rw [Lib.run_neq_ptr_same w _ Tryz.underlying55 hj]
  go_wp2
  go_end0
  exact ⟨rfl, rfl⟩
set_option maxHeartbeats 1000000 in
set_option maxRecDepth 100000 in
theorem copyCheck_fresh (b : Nat) (w : World) (h0 : w.cell? ⟨b, 0, none⟩ = some (.pointer none)) (hsh : w.shape? b = some (57, 2)) (hfz : w.frozen? ⟨b, 0, none⟩ = false) :
    Calls Tryz.prog 47 #[.pointer (some ⟨b, 0, none⟩)] w fun e w' => e = .returned (.tuple #[]) ∧ w' = w.setCell ⟨b, 0, none⟩ (.pointer (some ⟨b, 0, none⟩)) := by
  obtain ⟨j, hj, hjs⟩ := Option.map_eq_some_iff.1 bd_size
  go_enter Tryz.func47, Tryz.ntmps47
  go_wp2
  rw [Lib.run_to_unsafe w ⟨b, 0, none⟩ Tryz.underlying55 Tryz.underlying90 hj (by rw [hjs]; decide) hsh (Nat.zero_lt_succ 1)]
  simp only [Result.andThen]
  rw [Oper.upon_value]
  go_wp2
  rw [run_callFunc_extern Tryz.func58 (by kernel_rfl) (by kernel_rfl) (by kernel_rfl) (e := Extern.AbiNoEscape.same) (by kernel_rfl)]
  rw [Lib.run_noEscape]
  simp only [Result.andThen]
  rw [Oper.upon_value]
  go_wp2
  rw [Lib.run_from_unsafe w ⟨b, 0, none⟩ Tryz.underlying90 Tryz.underlying55 hj hsh bd_lies]
  simp only [Result.andThen]
  rw [Oper.upon_value]
  go_wp2
  go_end0
  exact ⟨rfl, rfl⟩
theorem copyCheck_k (B b : Nat) (bs : List Value) (w : World) (h : Lib.IsBuilderF 57 5 B b bs w) :
    Calls Tryz.prog 47 #[.pointer (some ⟨b, 0, none⟩)] w fun e w' => e = .returned (.tuple #[]) ∧ (Lib.BuilderAtF 57 5 B b (.pointer (some ⟨b, 0, none⟩)) bs w' ∧ Below B w w' ∧ Lib.OthersKept 5 (some b) w w') := by
  rcases h with h | h
  · refine (copyCheck_fresh b w h.cell0 h.shape h.frozen0).mono ?_
    rintro e w' ⟨rfl, rfl⟩
    exact ⟨rfl, h.used _, (Below.refl B w).setCell (p := ⟨b, 0, none⟩) h.1 _, (Lib.OthersKept.refl _ _ w).setCell ⟨b, 0, none⟩ rfl _⟩
  · refine (copyCheck_used b w h.cell0).mono ?_
    rintro e w' ⟨rfl, rfl⟩
    exact ⟨rfl, h, Below.refl B _, Lib.OthersKept.refl _ _ _⟩
set_option maxHeartbeats 2000000 in
set_option maxRecDepth 100000 in
theorem WriteByte_k (B b : Nat) (bs : List Value) (c : Int) (w : World) (h : Lib.IsBuilderF 57 5 B b bs w) (hlen : bs.length + 1 ≤ 140737488355328) (hBw : B ≤ w.heap.size) :
    Calls Tryz.prog 39 #[.pointer (some ⟨b, 0, none⟩), .int .u8 c] w fun e w' => e = .returned .nilIface ∧ (Lib.BuilderAtF 57 5 B b (.pointer (some ⟨b, 0, none⟩)) (bs ++ [.int .u8 c]) w' ∧ Below B w w' ∧ Lib.OthersKept 5 (some b) w w') := by
  obtain ⟨i0, hi, hz0, hz1, hz2⟩ := info_parts bd_byte
  go_enter Tryz.func39, Tryz.ntmps39
  go_wp2_with (go_at_call 47; refine (copyCheck_k B b bs _ h).mono ?_)
  rintro e w1 ⟨rfl, h1, hb1, hk1⟩
  obtain ⟨hB, v, hbk, hown, hne⟩ := h1
  have c0 : w1.cell? ⟨b, 0, none⟩ = some (.pointer (some ⟨b, 0, none⟩)) := by rw [Lib.cell_of_heap hbk]; rfl
  have c1 : w1.cell? ⟨b, 1, none⟩ = some v := by rw [Lib.cell_of_heap hbk]; rfl
  go_wp2_with (at_builtin; refine wpList_append_ownF _ rfl _ _ 35 rfl B 5 i0 (.int .u8 0) 1 1 Tryz.underlying35 hi hz0 hz1 hz2 rfl (by decide) _ _ _ rfl (hown.alloc _) ⟨w1.heap.size, 0, none⟩ 1 1 [.int .u8 c] rfl rfl ?c1 ?c2 ?c3 ?c4 ?c5 ?_)
  case c1 =>
    intro j u hj
    match j, hj with
    | 0, hj => simp at hj; subst hj; simp [Addr.add]
  case c2 => intro u hu; simp at hu; subst hu; rfl
  case c3 => unfold maxLen; omega
  case c4 => omega
  case c5 => have := hb1.size; simp; omega
  intro v' w2 hown' hgrow _
  have hlt : b < w1.heap.size := by
    rcases Nat.lt_or_ge b w1.heap.size with h' | h'
    · exact h'
    · simp [Array.getElem?_eq_none h'] at hbk
  have hb2 : w2.heap[b]? = some (.cells #[.pointer (some ⟨b, 0, none⟩), v] 57 (0, 0)) := by
    rw [hgrow.block b (by simp; omega) (fun e => hne e.symm), Lib.alloc_old w1 _ b hlt]
    exact hbk
  have d0 : w2.cell? ⟨b, 0, none⟩ = some (.pointer (some ⟨b, 0, none⟩)) := by rw [Lib.cell_of_heap hb2]; rfl
  have d1 : w2.cell? ⟨b, 1, none⟩ = some v := by rw [Lib.cell_of_heap hb2]; rfl
  have f1 : w2.frozen? ⟨b, 1, none⟩ = false := Lib.frozen_of_heap hb2 1
  obtain ⟨g, cap, rfl⟩ : ∃ g cap, v' = .slice (some ⟨g, 0, none⟩) (bs.length + 1) cap := by
    rcases hown'.2 with ⟨_, h0⟩ | ⟨g, cap, cur, fz, hv, _⟩
    · omega
    · exact ⟨g, cap, hv⟩
  go_wp2
  go_ret
  refine ⟨rfl, ?_, ?_, ((hk1.alloc _).grown hgrow (Lib.ownsRowF_kind (hown.alloc _))).setCell ⟨b, 1, none⟩ rfl _⟩
  · exact Lib.BuilderAtF.put (T := 57) (e := 5) hB hb2 (bs' := bs ++ [.int .u8 c]) (by simpa using hown') (by decide)
  · exact ((hb1.alloc (by have := hb1.size; omega) _).grown hgrow (by have := hb1.size; simp; omega) (fun k hk => (hown.lt k hk).1)).setCell (p := ⟨b, 1, none⟩) hB _
set_option maxHeartbeats 2000000 in
set_option maxRecDepth 100000 in
theorem WriteString_k (B b : Nat) (bs : List Value) (s : ByteArray) (w : World) (h : Lib.IsBuilderF 57 5 B b bs w) (hlen : bs.length + s.size ≤ 140737488355328) (hBw : B ≤ w.heap.size) :
    Calls Tryz.prog 30 #[.pointer (some ⟨b, 0, none⟩), .string s] w fun e w' => e = .returned (.tuple #[.int .i64 s.size, .nilIface]) ∧ (Lib.BuilderAtF 57 5 B b (.pointer (some ⟨b, 0, none⟩)) (bs ++ Lib.strCells s) w' ∧ Below B w w' ∧ Lib.OthersKept 5 (some b) w w') := by
  obtain ⟨i0, hi, hz0, hz1, hz2⟩ := info_parts bd_byte
  go_enter Tryz.func30, Tryz.ntmps30
  go_wp2_with (go_at_call 47; refine (copyCheck_k B b bs _ h).mono ?_)
  rintro e w1 ⟨rfl, h1, hb1, hk1⟩
  obtain ⟨hB, v, hbk, hown, hne⟩ := h1
  have c0 : w1.cell? ⟨b, 0, none⟩ = some (.pointer (some ⟨b, 0, none⟩)) := by rw [Lib.cell_of_heap hbk]; rfl
  have c1 : w1.cell? ⟨b, 1, none⟩ = some v := by rw [Lib.cell_of_heap hbk]; rfl
  go_wp2_with (at_builtin; refine Lib.wpList_append_own_stringF _ rfl _ _ 35 9 rfl B 5 i0 Tryz.underlying35 Tryz.underlying9 hi hz0 hz1 hz2 _ _ _ rfl hown s rfl ?c3 ?c4 ?c5 ?_)
  case c3 => unfold maxLen; omega
  case c4 => omega
  case c5 => have := hb1.size; omega
  intro v' w2 hown' hgrow _
  have hlt : b < w1.heap.size := by
    rcases Nat.lt_or_ge b w1.heap.size with h' | h'
    · exact h'
    · simp [Array.getElem?_eq_none h'] at hbk
  have hb2 : w2.heap[b]? = some (.cells #[.pointer (some ⟨b, 0, none⟩), v] 57 (0, 0)) := by
    rw [hgrow.block b hlt (fun e => hne e.symm)]
    exact hbk
  have d0 : w2.cell? ⟨b, 0, none⟩ = some (.pointer (some ⟨b, 0, none⟩)) := by rw [Lib.cell_of_heap hb2]; rfl
  have d1 : w2.cell? ⟨b, 1, none⟩ = some v := by rw [Lib.cell_of_heap hb2]; rfl
  have f1 : w2.frozen? ⟨b, 1, none⟩ = false := Lib.frozen_of_heap hb2 1
  obtain ⟨ao, n', cap, rfl⟩ : ∃ ao n' cap, v' = .slice ao n' cap := by
    rcases hown'.2 with ⟨hv, _⟩ | ⟨g, cap, cur, fz, hv, _⟩
    · exact ⟨_, _, _, hv⟩
    · exact ⟨_, _, _, hv⟩
  go_wp2
  go_ret2
  refine ⟨rfl, ?_, ?_, (hk1.grown hgrow (Lib.ownsRowF_kind hown)).setCell ⟨b, 1, none⟩ rfl _⟩
  · exact Lib.BuilderAtF.put (T := 57) (e := 5) hB hb2 (bs' := bs ++ Lib.strCells s) (by simpa [Lib.strCells_length] using hown') (by decide)
  · exact (hb1.grown hgrow (by have := hb1.size; omega) (fun k hk => (hown.lt k hk).1)).setCell (p := ⟨b, 1, none⟩) hB _
theorem IsBd.below {B b : Nat} {l : List UInt8} {w w' : World} (h : IsBd B b l w) (hb : Below w.heap.size w w') : IsBd B b l w' := by
  have key : ∀ p, Lib.BuilderAtF 57 5 B b p (Lib.byteCells l) w → Lib.BuilderAtF 57 5 B b p (Lib.byteCells l) w' := by
    rintro p ⟨hB, v, hbk, hown, hne⟩
    have hlt : b < w.heap.size := (Array.getElem?_eq_some_iff.1 hbk).1
    refine ⟨hB, v, (hb.block b hlt).trans hbk, hown.kept (row := none) (grown_of_below hb none) (by cases v.ownBlock <;> simp), hne⟩
  rcases h with h | h
  · exact .inl (key _ h)
  · exact .inr (key _ h)
theorem IsBd.alloc {B b : Nat} {l : List UInt8} {w : World} (h : IsBd B b l w) (o : Obj) : IsBd B b l (w.alloc o) := h.below (below_alloc (Below.refl _ _) o)
theorem reads_one (W : World) (k : IntKind) (t : TypeId) (c : Int) : Kd.C (Kd.int k) (W.alloc (.cells #[.int k c] t)) (some ⟨W.heap.size, 0, none⟩) 1 [c] := by
  refine Kd.C_of_reads (d := (0 : Int)) (h1 := fun _ => rfl) (show ReadsInt _ k _ 1 [c] from ⟨rfl, by decide, fun _ => ⟨_, rfl, ?_⟩⟩)
  intro j hj
  obtain rfl : j = 0 := by omega
  simp [Addr.add]
end Go.Proofs.YtfdikkdbmlcjiaaGreatDoor.M
end
section
namespace Go.Proofs.YtfdikkdbmlcjiaaGreatDoor.M
open Go.RowKit Go.Proofs.YtfdikkdbmlcjiaaGreatDoorW.PrintWords
set_option linter.unusedVariables false
/-- A digit of a number below 16. -/
def hexDig (n : Nat) : UInt8 := if n < 10 then (48 + n).toUInt8 else (55 + n).toUInt8
def hexOf (c : Int) : List UInt8 := [hexDig (c.toNat / 16), hexDig (c.toNat % 16)]
def hexBytes (l : List Int) : List UInt8 := l.flatMap hexOf
def isByte (c : Int) : Bool := decide (0 ≤ c) && decide (c ≤ 255)
def hex_Hex.f (l0 : List Int) : Option ByteArray := if l0.all isByte = true then (if l0.length * 2 ≤ 140737488355328 then some ⟨(hexBytes l0).toArray⟩ else none) else none
theorem hexBytes_length (l : List Int) : (hexBytes l).length = 2 * l.length := by
  induction l with
  | nil => rfl
  | cons c l ih => simp only [hexBytes, List.flatMap_cons, List.length_append] at ih ⊢; rw [ih]; simp [hexOf]; omega
theorem hexBytes_snoc (l : List Int) (i : Nat) (h : i < l.length) : hexBytes (l.take (i + 1)) = hexBytes (l.take i) ++ hexOf (l.getD i 0) := by
  unfold hexBytes
  rw [List.take_succ_eq_append_getElem h, List.flatMap_append]
  simp [List.getD_eq_getElem?_getD, h]
theorem hexAt (n : Nat) (h : n < 16) : (⟨#[48, 49, 50, 51, 52, 53, 54, 55, 56, 57, 65, 66, 67, 68, 69, 70]⟩ : ByteArray)[n]'h = hexDig n := by
  have : ∀ m : Fin 16, (⟨#[48, 49, 50, 51, 52, 53, 54, 55, 56, 57, 65, 66, 67, 68, 69, 70]⟩ : ByteArray)[m.val]'m.isLt = hexDig m.val := by decide
  exact this ⟨n, h⟩
theorem hexCells (l : List Int) (k : Nat) (hk : k < l.length) (c : Int) (hc : rd l k = c) (h0 : 0 ≤ c) (h1 : c ≤ 255) (ha : (c / 16).toNat < 16) (hb : (c % 16).toNat < 16) :
    Lib.byteCells (hexBytes (l.take k)) ++ [.int .u8 ↑((⟨#[48, 49, 50, 51, 52, 53, 54, 55, 56, 57, 65, 66, 67, 68, 69, 70]⟩ : ByteArray)[(c / 16).toNat]'ha).toNat] ++ [.int .u8 ↑((⟨#[48, 49, 50, 51, 52, 53, 54, 55, 56, 57, 65, 66, 67, 68, 69, 70]⟩ : ByteArray)[(c % 16).toNat]'hb).toNat] = Lib.byteCells (hexBytes (l.take (k + 1))) := by
  rw [hexBytes_snoc l k hk, Lib.byteCells_append, hexAt _ ha, hexAt _ hb, List.append_assoc]
  have e : l.getD k 0 = c := by simpa [rd] using hc
  rw [e]
  have e1 : (c / 16).toNat = c.toNat / 16 := by omega
  have e2 : (c % 16).toNat = c.toNat % 16 := by omega
  simp [hexOf, Lib.byteCells, e1, e2]
set_option maxHeartbeats 4000000 in
set_option maxRecDepth 1000000 in
theorem hex_Hex.calls (A0 : Option Addr) (c0 : Nat) (l0 : List Int) (r : ByteArray) (w : World) (hr0 : Kd.C (Kd.int .u8) w A0 l0.length l0) (hc0 : l0.length ≤ c0) (h : hex_Hex.f l0 = some r) :
    Calls Tryz.prog 26 #[.slice A0 l0.length c0] w fun e w' => e = .returned (.string r) ∧ Below w.heap.size w w' := by
  unfold hex_Hex.f at h
  split at h
  case isFalse => cases h
  rename_i hb
  split at h
  case isFalse => cases h
  rename_i hl
  obtain rfl := Option.some.inj h
  clear h
  have HR := Aside0.mk hr0
  have HB := Aside0.mk hb
  clear hr0 hb
  go_enter Tryz.func26, Tryz.ntmps26
  go_wp2
  go_loopw [8] (fun i wr => ∃ k : Nat, k ≤ l0.length ∧ i = .int .i64 k ∧ IsBd w.heap.size w.heap.size (hexBytes (l0.take k)) wr ∧ Below w.heap.size w wr) (fun i wr => l0.length - (intOf i).toNat)
  case atStart => 
    refine ⟨0, Nat.zero_le _, rfl, (Lib.IsBuilderF.of (Lib.fresh_isBuilder _ _ w)), (Below.refl _ w).alloc (Nat.le_refl _) _⟩
  case round =>
    obtain ⟨k, hk, rfl, hI, hbw⟩ := hrel
    by_cases hlt : k < l0.length
    · obtain ⟨ad, e101, hx101⟩ := Kd.at_int HR.out (k : Int) (by omega) (by omega)
      subst e101
      have hx : wr.cell? (ad.add k) = some (.int .u8 (rd l0 k)) := by simpa using pw_cell_below hbw hx101
      obtain ⟨c, hc, h0, h1⟩ : ∃ c, rd l0 k = c ∧ 0 ≤ c ∧ c ≤ 255 := by
        have hm : rd l0 k ∈ l0 := by simp [rd, List.getD_eq_getElem?_getD, hlt]
        have := List.all_eq_true.1 HB.out _ hm
        simp only [isByte, Bool.and_eq_true, decide_eq_true_eq] at this
        exact ⟨_, rfl, this.1, this.2⟩
      have HC := Aside0.mk hc
      rw [hc] at hx
      clear hc hx101
      have hand : Go.bits .and .u8 c 15 = c % 16 := u8_and15 c h0 (by omega)
      go_wp2_with (go_at_call 39; refine (WriteByte_k w.heap.size w.heap.size _ _ _ hI ?_ ?_).mono ?_)
      · rw [Lib.byteCells_length, hexBytes_length, List.length_take]; omega
      · exact hbw.size
      rintro e W1 ⟨rfl, h1, b1, k1⟩
      clear hI
      go_wp2_with (go_at_call 39; refine (WriteByte_k w.heap.size w.heap.size _ _ _ (.inr h1) ?_ ?_).mono ?_)
      · simp only [List.length_append, Lib.byteCells_length, hexBytes_length, List.length_take, List.length_cons, List.length_nil]; omega
      · exact (hbw.trans b1).size
      rintro e W2 ⟨rfl, h2, b2, k2⟩
      rw [hexCells l0 k hlt c HC.out h0 (by omega)] at h2
      go_wp2
      go_roundw
      case rel => exact ⟨k + 1, by omega, by go_num, .inr h2, (hbw.trans b1).trans b2⟩
      case measure => simp [intOf]; omega
    · go_wp2_with (go_at_call 31; refine (Tryz.Builder_String_any_k w.heap.size w.heap.size _ _ hI hbw.size).mono ?_)
      rintro e W1 ⟨rfl, _, b1, _⟩
      go_wp2
      go_ret
      rw [List.take_of_length_le (by omega)]
      exact ⟨rfl, hbw.trans b1⟩
end Go.Proofs.YtfdikkdbmlcjiaaGreatDoor.M
end
section
namespace Go.Proofs.YtfdikkdbmlcjiaaGreatDoor.M
open Go.RowKit Go.Proofs.YtfdikkdbmlcjiaaGreatDoorW.PrintWords
set_option linter.unusedVariables false
/-- The blanks. -/
def isWhite (c : Int) : Bool := c == 0 || c == 9 || c == 10 || c == 12 || c == 13 || c == 32
def hex_White.f (a0 : Int) : Option Bool := some (isWhite a0)
set_option maxRecDepth 100000 in
theorem hex_blanks.calls (w : World) :
    Calls Tryz.prog 32 #[] w fun e w' => e = .returned (.agg #[.int .i64 0, .int .i64 9, .int .i64 10, .int .i64 12, .int .i64 13, .int .i64 32]) ∧ Below w.heap.size w w' := by
  go_enter Tryz.func32, Tryz.ntmps32
  go_wp2
  exact bodyPost_ret (v := .agg #[.int .i64 0, .int .i64 9, .int .i64 10, .int .i64 12, .int .i64 13, .int .i64 32]) (by simp [results, Tryz.results32, go_sem]) rfl ⟨rfl, (Below.refl _ _).alloc (Nat.le_refl _) _⟩
theorem white_contains (a0 : Int) : (([0, 9, 10, 12, 13, 32] : List Int).take 6).contains a0 = isWhite a0 := by
  unfold isWhite
  simp only [List.take, List.contains_cons, List.contains_nil, Bool.or_false, Bool.or_assoc]
set_option maxHeartbeats 1000000 in
set_option maxRecDepth 100000 in
theorem hex_White.calls (a0 : Int) (r : Bool) (w : World) (h : hex_White.f a0 = some r) :
    Calls Tryz.prog 16 #[.int .i64 a0] w fun e w' => e = .returned (.bool r) ∧ Below w.heap.size w w' := by
  obtain rfl := Option.some.inj h
  clear h
  go_enter Tryz.func16, Tryz.ntmps16
  go_wp2_with (first
    | (go_at_call 32; refine (hex_blanks.calls _).mono ?_; rintro e w1 ⟨rfl, hb⟩)
    | (go_at_call 33; refine (Tryz.slices_Contains_int _ 0 6 6 [0, 9, 10, 12, 13, 32] a0 _ (by decide) (by decide) ?_).mono ?_))
  · intro j hj
    match j, hj with
    | 0, _ | 1, _ | 2, _ | 3, _ | 4, _ | 5, _ => simp
  rintro e w2 ⟨rfl, rfl⟩
  rw [white_contains]
  go_wp2
  go_ret
  exact ⟨rfl, below_alloc hb _⟩
end Go.Proofs.YtfdikkdbmlcjiaaGreatDoor.M
end
section
/- Laid by this session's program hbprint.py out of the translation: the function hornbook/lex.Class and its contract. -/
namespace Go.Proofs.YtfdikkdbmlcjiaaGreatDoor.M
open Go.RowKit Go.Proofs.YtfdikkdbmlcjiaaGreatDoorW.PrintWords Go.Proofs.YtfdikkdbmlcjiaaGreatDoorW.PrintLast Go.Proofs.YtfdikkdbmlcjiaaGreatDoorW.PrintMore
attribute [local go_sem] max2_int min2_int max_two min_two max_three min_three max_four min_four
set_option linter.unusedVariables false
set_option linter.unusedSimpArgs false
mutual
def lex_Class.j0 : Nat → Int → Int → Int → Bool → Option (Int)
  | 0, _, _, _, _ => none
  | k + 1, x0, x3, x4, x5 => if x5 = true then (some 2) else (if x4 = 123 then (lex_Class.j1 k x0 x3 (x4 == 123)) else (if x4 = 125 then (lex_Class.j1 k x0 x3 (x4 == 125)) else (if x4 = 47 then (lex_Class.j1 k x0 x3 (x4 == 47)) else (lex_Class.j1 k x0 x3 (x4 == 37)))))
def lex_Class.j1 : Nat → Int → Int → Bool → Option (Int)
  | 0, _, _, _ => none
  | k + 1, x0, x3, x12 => if x12 = true then (some 2) else ((hex_White.f x0).bind fun t101 => (if t101 = true then (some 1) else (some x3)))
end
def lex_Class.f (k : Nat) (a0 : Int) : Option (Int) := if a0 = 40 then (lex_Class.j0 k a0 0 a0 (a0 == 40)) else (if a0 = 41 then (lex_Class.j0 k a0 0 a0 (a0 == 41)) else (if a0 = 60 then (lex_Class.j0 k a0 0 a0 (a0 == 60)) else (if a0 = 62 then (lex_Class.j0 k a0 0 a0 (a0 == 62)) else (if a0 = 91 then (lex_Class.j0 k a0 0 a0 (a0 == 91)) else (lex_Class.j0 k a0 0 a0 (a0 == 93))))))
theorem lex_Class.mono_l : ∀ k, (∀ y0 y1 y2 y3, LeO (lex_Class.j0 k y0 y1 y2 y3) (lex_Class.j0 (k + 1) y0 y1 y2 y3)) ∧ (∀ y0 y1 y2, LeO (lex_Class.j1 k y0 y1 y2) (lex_Class.j1 (k + 1) y0 y1 y2))
  | 0 => ⟨fun _ _ _ _ r h => by simp [lex_Class.j0] at h, fun _ _ _ r h => by simp [lex_Class.j1] at h⟩
  | k + 1 => by
    obtain ⟨ih0, ih1⟩ := lex_Class.mono_l k
    refine ⟨?_, ?_⟩
    · intro y0 y1 y2 y3
      unfold lex_Class.j0
      repeat' first
      | (with_reducible exact ih0 _ _ _ _)
      | (with_reducible exact ih1 _ _ _)
      | (with_reducible exact LeO.refl _)
      | (with_reducible exact LeO.none _)
      | (with_reducible refine LeO.ite ?_ ?_)
      | (with_reducible refine LeO.bind ?_ (fun _ => ?_))
      | exact ih0 _ _ _ _
      | exact ih1 _ _ _
      | exact LeO.none _
      | refine LeO.ite ?_ ?_
      | refine LeO.bind ?_ (fun _ => ?_)
    · intro y0 y1 y2
      unfold lex_Class.j1
      repeat' first
      | (with_reducible exact ih0 _ _ _ _)
      | (with_reducible exact ih1 _ _ _)
      | (with_reducible exact LeO.refl _)
      | (with_reducible exact LeO.none _)
      | (with_reducible refine LeO.ite ?_ ?_)
      | (with_reducible refine LeO.bind ?_ (fun _ => ?_))
      | exact ih0 _ _ _ _
      | exact ih1 _ _ _
      | exact LeO.none _
      | refine LeO.ite ?_ ?_
      | refine LeO.bind ?_ (fun _ => ?_)
theorem lex_Class.mono : ∀ a0 k, LeO (lex_Class.f k a0) (lex_Class.f (k + 1) a0) := by
  intro a0 k
  obtain ⟨ih0, ih1⟩ := lex_Class.mono_l k
  unfold lex_Class.f
  repeat' first
      | (with_reducible exact ih0 _ _ _ _)
      | (with_reducible exact ih1 _ _ _)
      | (with_reducible exact LeO.refl _)
      | (with_reducible exact LeO.none _)
      | (with_reducible refine LeO.ite ?_ ?_)
      | (with_reducible refine LeO.bind ?_ (fun _ => ?_))
      | exact ih0 _ _ _ _
      | exact ih1 _ _ _
      | exact LeO.none _
      | refine LeO.ite ?_ ?_
      | refine LeO.bind ?_ (fun _ => ?_)
set_option maxHeartbeats 8000000 in
set_option maxRecDepth 100000 in
theorem lex_Class.calls (k : Nat) (a0 : Int) (r : Int) (w : World) (h : lex_Class.f k a0 = some r) :
    Calls Tryz.prog 12 #[.int .i64 a0] w fun e w' => e = .returned (.int .i64 r) ∧ Below w.heap.size w w' := by
  have HB := Aside0.mk (Below.refl w.heap.size w)
  have H : (if a0 = 40 then (lex_Class.j0 k a0 0 a0 (a0 == 40)) else (if a0 = 41 then (lex_Class.j0 k a0 0 a0 (a0 == 41)) else (if a0 = 60 then (lex_Class.j0 k a0 0 a0 (a0 == 60)) else (if a0 = 62 then (lex_Class.j0 k a0 0 a0 (a0 == 62)) else (if a0 = 91 then (lex_Class.j0 k a0 0 a0 (a0 == 91)) else (lex_Class.j0 k a0 0 a0 (a0 == 93))))))) = some r := h
  clear h
  have HC2 := Aside0.mk H
  clear H
  go_enter Tryz.func12, Tryz.ntmps12
  go_upto_if 5 with (fail)
  go_cut [5] (fun v5 wc => ∃ (kq : Nat) (x5_1 : Bool), v5 = .bool x5_1 ∧ Aside0 (lex_Class.j0 kq a0 0 a0 x5_1 = some r) ∧ Aside0 (kq ≤ k) ∧ Aside0 (Below w.heap.size w wc))
  case first =>
    have H := HC2.out
    clear HC2
    by_cases c3 : a0 = 40
    · rw [if_pos c3] at H
      have c3b0 : (a0 == 40) = true := beq_iff_eq.mpr c3
      have c3b1 : (a0 != 40) = false := bne_eq_false_iff_eq.mpr c3
      clear c3
      (first | rw [c3b0] | (simp only [i64_w, i32_w]; rw [c3b0]) | skip)
      have H' := Aside0.mk H
      clear H
      go_wp2
      go_meet
      case rel => exact ⟨_, ((a0 == 40)), (by first | rfl | (simp; done) | (simp [*]; done)), H', ⟨by first | omega | exact Nat.le_refl _⟩, ⟨by repeat (first | (with_reducible first | exact HB.out | apply below_alloc | apply pw_below_drewN | apply below_drew1) | exact HB.out)⟩⟩
    · rw [if_neg c3] at H
      have c3b0 : (a0 == 40) = false := beq_eq_false_iff_ne.mpr c3
      have c3b1 : (a0 != 40) = true := bne_iff_ne.mpr c3
      (first | rw [c3b0] | (simp only [i64_w, i32_w]; rw [c3b0]) | skip)
      by_cases c4 : a0 = 41
      · rw [if_pos c4] at H
        have c4b0 : (a0 == 41) = true := beq_iff_eq.mpr c4
        have c4b1 : (a0 != 41) = false := bne_eq_false_iff_eq.mpr c4
        clear c4
        have H' := Aside0.mk H
        clear H
        go_wp2
        go_meet
        case rel => exact ⟨_, ((a0 == 41)), (by first | rfl | (simp; done) | (simp [*]; done)), H', ⟨by first | omega | exact Nat.le_refl _⟩, ⟨by repeat (first | (with_reducible first | exact HB.out | apply below_alloc | apply pw_below_drewN | apply below_drew1) | exact HB.out)⟩⟩
      · rw [if_neg c4] at H
        have c4b0 : (a0 == 41) = false := beq_eq_false_iff_ne.mpr c4
        have c4b1 : (a0 != 41) = true := bne_iff_ne.mpr c4
        by_cases c5 : a0 = 60
        · rw [if_pos c5] at H
          have c5b0 : (a0 == 60) = true := beq_iff_eq.mpr c5
          have c5b1 : (a0 != 60) = false := bne_eq_false_iff_eq.mpr c5
          clear c5
          have H' := Aside0.mk H
          clear H
          go_wp2
          go_meet
          case rel => exact ⟨_, ((a0 == 60)), (by first | rfl | (simp; done) | (simp [*]; done)), H', ⟨by first | omega | exact Nat.le_refl _⟩, ⟨by repeat (first | (with_reducible first | exact HB.out | apply below_alloc | apply pw_below_drewN | apply below_drew1) | exact HB.out)⟩⟩
        · rw [if_neg c5] at H
          have c5b0 : (a0 == 60) = false := beq_eq_false_iff_ne.mpr c5
          have c5b1 : (a0 != 60) = true := bne_iff_ne.mpr c5
          by_cases c6 : a0 = 62
          · rw [if_pos c6] at H
            have c6b0 : (a0 == 62) = true := beq_iff_eq.mpr c6
            have c6b1 : (a0 != 62) = false := bne_eq_false_iff_eq.mpr c6
            clear c6
            have H' := Aside0.mk H
            clear H
            go_wp2
            go_meet
            case rel => exact ⟨_, ((a0 == 62)), (by first | rfl | (simp; done) | (simp [*]; done)), H', ⟨by first | omega | exact Nat.le_refl _⟩, ⟨by repeat (first | (with_reducible first | exact HB.out | apply below_alloc | apply pw_below_drewN | apply below_drew1) | exact HB.out)⟩⟩
          · rw [if_neg c6] at H
            have c6b0 : (a0 == 62) = false := beq_eq_false_iff_ne.mpr c6
            have c6b1 : (a0 != 62) = true := bne_iff_ne.mpr c6
            by_cases c7 : a0 = 91
            · rw [if_pos c7] at H
              have c7b0 : (a0 == 91) = true := beq_iff_eq.mpr c7
              have c7b1 : (a0 != 91) = false := bne_eq_false_iff_eq.mpr c7
              clear c7
              have H' := Aside0.mk H
              clear H
              go_wp2
              go_meet
              case rel => exact ⟨_, ((a0 == 91)), (by first | rfl | (simp; done) | (simp [*]; done)), H', ⟨by first | omega | exact Nat.le_refl _⟩, ⟨by repeat (first | (with_reducible first | exact HB.out | apply below_alloc | apply pw_below_drewN | apply below_drew1) | exact HB.out)⟩⟩
            · rw [if_neg c7] at H
              have c7b0 : (a0 == 91) = false := beq_eq_false_iff_ne.mpr c7
              have c7b1 : (a0 != 91) = true := bne_iff_ne.mpr c7
              have H' := Aside0.mk H
              clear H
              go_wp2
              go_meet
              case rel => exact ⟨_, ((a0 == 93)), (by first | rfl | (simp; done) | (simp [*]; done)), H', ⟨by first | omega | exact Nat.le_refl _⟩, ⟨by repeat (first | (with_reducible first | exact HB.out | apply below_alloc | apply pw_below_drewN | apply below_drew1) | exact HB.out)⟩⟩
  case rest =>
    clear HC2
    try clear c1
    try clear p2
    try clear c3
    try clear c3b0
    try clear c3b1
    try clear c4
    try clear c4b0
    try clear c4b1
    try clear c5
    try clear c5b0
    try clear c5b1
    try clear c6
    try clear c6b0
    try clear c6b1
    try clear c7
    try clear c7b0
    try clear c7b1
    obtain ⟨kq, x5_1, rfl, HA, HJ1, HB⟩ := hcut
    cases kq with
    | zero => exact absurd HA.out (by simp [lex_Class.j0])
    | succ kj1 =>
      have H := HA.out
      clear HA
      simp only [lex_Class.j0] at H
      by_cases c8 : x5_1 = true
      · subst c8
        have H1 : (some 2) = some r := by rw [if_pos rfl] at H; exact H
        clear H
        have H := H1
        clear H1
        obtain rfl := Option.some.inj H
        go_wp2
        go_ret
        exact ⟨by first | rfl | (simp [errW_none, errW_some] <;> rfl) | (simp [*, errW_none, errW_some] <;> rfl), by repeat (first | (with_reducible first | exact HB.out | apply below_alloc | apply pw_below_drewN | apply below_drew1) | exact HB.out)⟩
      · replace c8 := Bool.eq_false_iff.mpr c8
        subst c8
        have H1 : (if a0 = 123 then (lex_Class.j1 kj1 a0 0 (a0 == 123)) else (if a0 = 125 then (lex_Class.j1 kj1 a0 0 (a0 == 125)) else (if a0 = 47 then (lex_Class.j1 kj1 a0 0 (a0 == 47)) else (lex_Class.j1 kj1 a0 0 (a0 == 37))))) = some r := by rw [if_neg (show ¬ (false = true) by decide)] at H; exact H
        clear H
        have H := H1
        clear H1
        have HC9 := Aside0.mk H
        clear H
        go_upto_if 12 with (fail)
        go_cut [12] (fun v12 wc => ∃ (kq : Nat) (x12_8 : Bool), v12 = .bool x12_8 ∧ Aside0 (lex_Class.j1 kq a0 0 x12_8 = some r) ∧ Aside0 (kq ≤ kj1) ∧ Aside0 (Below w.heap.size w wc))
        case first =>
          have H := HC9.out
          clear HC9
          by_cases c10 : a0 = 123
          · rw [if_pos c10] at H
            have c10b0 : (a0 == 123) = true := beq_iff_eq.mpr c10
            have c10b1 : (a0 != 123) = false := bne_eq_false_iff_eq.mpr c10
            clear c10
            (first | rw [c10b0] | (simp only [i64_w, i32_w]; rw [c10b0]) | skip)
            have H' := Aside0.mk H
            clear H
            go_wp2
            go_meet
            case rel => exact ⟨_, ((a0 == 123)), (by first | rfl | (simp; done) | (simp [*]; done)), H', ⟨by have := HJ1.out; first | omega | exact Nat.le_refl _⟩, ⟨by repeat (first | (with_reducible first | exact HB.out | apply below_alloc | apply pw_below_drewN | apply below_drew1) | exact HB.out)⟩⟩
          · rw [if_neg c10] at H
            have c10b0 : (a0 == 123) = false := beq_eq_false_iff_ne.mpr c10
            have c10b1 : (a0 != 123) = true := bne_iff_ne.mpr c10
            (first | rw [c10b0] | (simp only [i64_w, i32_w]; rw [c10b0]) | skip)
            by_cases c11 : a0 = 125
            · rw [if_pos c11] at H
              have c11b0 : (a0 == 125) = true := beq_iff_eq.mpr c11
              have c11b1 : (a0 != 125) = false := bne_eq_false_iff_eq.mpr c11
              clear c11
              have H' := Aside0.mk H
              clear H
              go_wp2
              go_meet
              case rel => exact ⟨_, ((a0 == 125)), (by first | rfl | (simp; done) | (simp [*]; done)), H', ⟨by have := HJ1.out; first | omega | exact Nat.le_refl _⟩, ⟨by repeat (first | (with_reducible first | exact HB.out | apply below_alloc | apply pw_below_drewN | apply below_drew1) | exact HB.out)⟩⟩
            · rw [if_neg c11] at H
              have c11b0 : (a0 == 125) = false := beq_eq_false_iff_ne.mpr c11
              have c11b1 : (a0 != 125) = true := bne_iff_ne.mpr c11
              by_cases c12 : a0 = 47
              · rw [if_pos c12] at H
                have c12b0 : (a0 == 47) = true := beq_iff_eq.mpr c12
                have c12b1 : (a0 != 47) = false := bne_eq_false_iff_eq.mpr c12
                clear c12
                have H' := Aside0.mk H
                clear H
                go_wp2
                go_meet
                case rel => exact ⟨_, ((a0 == 47)), (by first | rfl | (simp; done) | (simp [*]; done)), H', ⟨by have := HJ1.out; first | omega | exact Nat.le_refl _⟩, ⟨by repeat (first | (with_reducible first | exact HB.out | apply below_alloc | apply pw_below_drewN | apply below_drew1) | exact HB.out)⟩⟩
              · rw [if_neg c12] at H
                have c12b0 : (a0 == 47) = false := beq_eq_false_iff_ne.mpr c12
                have c12b1 : (a0 != 47) = true := bne_iff_ne.mpr c12
                have H' := Aside0.mk H
                clear H
                go_wp2
                go_meet
                case rel => exact ⟨_, ((a0 == 37)), (by first | rfl | (simp; done) | (simp [*]; done)), H', ⟨by have := HJ1.out; first | omega | exact Nat.le_refl _⟩, ⟨by repeat (first | (with_reducible first | exact HB.out | apply below_alloc | apply pw_below_drewN | apply below_drew1) | exact HB.out)⟩⟩
        case rest =>
          clear HC9
          try clear c1
          try clear p2
          try clear c3
          try clear c3b0
          try clear c3b1
          try clear c4
          try clear c4b0
          try clear c4b1
          try clear c5
          try clear c5b0
          try clear c5b1
          try clear c6
          try clear c6b0
          try clear c6b1
          try clear c7
          try clear c7b0
          try clear c7b1
          try clear c8
          try clear c10
          try clear c10b0
          try clear c10b1
          try clear c11
          try clear c11b0
          try clear c11b1
          try clear c12
          try clear c12b0
          try clear c12b1
          try clear p2
          obtain ⟨kq, x12_8, rfl, HA, HJ8, HB⟩ := hcut
          cases kq with
          | zero => exact absurd HA.out (by simp [lex_Class.j1])
          | succ kj8 =>
            have H := HA.out
            clear HA
            simp only [lex_Class.j1] at H
            by_cases c13 : x12_8 = true
            · subst c13
              have H1 : (some 2) = some r := by rw [if_pos rfl] at H; exact H
              clear H
              have H := H1
              clear H1
              obtain rfl := Option.some.inj H
              go_wp2
              go_ret
              exact ⟨by first | rfl | (simp [errW_none, errW_some] <;> rfl) | (simp [*, errW_none, errW_some] <;> rfl), by repeat (first | (with_reducible first | exact HB.out | apply below_alloc | apply pw_below_drewN | apply below_drew1) | exact HB.out)⟩
            · replace c13 := Bool.eq_false_iff.mpr c13
              subst c13
              have H1 : ((hex_White.f a0).bind fun t101 => (if t101 = true then (some 1) else (some 0))) = some r := by rw [if_neg (show ¬ (false = true) by decide)] at H; exact H
              clear H
              have H := H1
              clear H1
              replace H := Option.bind_eq_some_iff.mp H
              obtain ⟨t101, A140, H⟩ := H
              replace H : (if t101 = true then (some 1) else (some 0)) = some r := H
              have A14 := Aside0.mk A140
              clear A140
              by_cases c15 : t101 = true
              · subst c15
                have H1 : (some 1) = some r := by rw [if_pos rfl] at H; exact H
                clear H
                have H := H1
                clear H1
                obtain rfl := Option.some.inj H
                go_wp2_with (first | ((with_reducible refine gate_callee (f := 16) rfl ?_); refine goesL_ (some 18) rfl rfl Tryz.func16 (by kernel_rfl) rfl #[.int .i64 a0] rfl (by (try simp only [List.map_toArray, List.map_cons, List.map_nil]); first | done | rfl | (simp only [List.length_drop, List.length_take]; rfl)) ?_; (with_reducible refine (hex_White.calls a0 true _ A14.out).mono ?_); rintro e w16 ⟨rfl, hb⟩; refine ⟨_, rfl, ?_⟩; have n0_ := Aside0.mk (below_step (by repeat (first | (with_reducible first | exact HB.out | apply below_alloc | apply pw_below_drewN | apply below_drew1) | exact HB.out)) hb); clear HB; have HB := n0_; clear n0_; (try clear hb); (try clear hb2); (try clear hk); (try clear hi)))
                go_ret
                exact ⟨by first | rfl | (simp [errW_none, errW_some] <;> rfl) | (simp [*, errW_none, errW_some] <;> rfl), by repeat (first | (with_reducible first | exact HB.out | apply below_alloc | apply pw_below_drewN | apply below_drew1) | exact HB.out)⟩
              · replace c15 := Bool.eq_false_iff.mpr c15
                subst c15
                have H1 : (some 0) = some r := by rw [if_neg (show ¬ (false = true) by decide)] at H; exact H
                clear H
                have H := H1
                clear H1
                obtain rfl := Option.some.inj H
                go_wp2_with (first | ((with_reducible refine gate_callee (f := 16) rfl ?_); refine goesL_ (some 18) rfl rfl Tryz.func16 (by kernel_rfl) rfl #[.int .i64 a0] rfl (by (try simp only [List.map_toArray, List.map_cons, List.map_nil]); first | done | rfl | (simp only [List.length_drop, List.length_take]; rfl)) ?_; (with_reducible refine (hex_White.calls a0 false _ A14.out).mono ?_); rintro e w17 ⟨rfl, hb⟩; refine ⟨_, rfl, ?_⟩; have n0_ := Aside0.mk (below_step (by repeat (first | (with_reducible first | exact HB.out | apply below_alloc | apply pw_below_drewN | apply below_drew1) | exact HB.out)) hb); clear HB; have HB := n0_; clear n0_; (try clear hb); (try clear hb2); (try clear hk); (try clear hi)))
                go_ret
                exact ⟨by first | rfl | (simp [errW_none, errW_some] <;> rfl) | (simp [*, errW_none, errW_some] <;> rfl), by repeat (first | (with_reducible first | exact HB.out | apply below_alloc | apply pw_below_drewN | apply below_drew1) | exact HB.out)⟩
end Go.Proofs.YtfdikkdbmlcjiaaGreatDoor.M
end
section
namespace Go.Proofs.YtfdikkdbmlcjiaaGreatDoor.M
open Go.RowKit Go.Proofs.YtfdikkdbmlcjiaaGreatDoorW.PrintWords
def strings_IndexByte.f (a0 : ByteArray) (a1 : Int) : Option Int := some (Lib.indexByte a0.data.toList a1.toNat.toUInt8)
theorem strings_IndexByte.calls (a0 : ByteArray) (a1 : Int) (r : Int) (w : World) (h : strings_IndexByte.f a0 a1 = some r) :
    Calls Tryz.prog 35 #[.string a0, .int .u8 a1] w fun e w' => e = .returned (.int .i64 r) ∧ Drawn0 w w' := by
  obtain rfl := Option.some.inj h
  refine (Tryz.strings_IndexByte a0 a1 w).mono ?_
  rintro e w' ⟨rfl, rfl⟩
  exact ⟨rfl, Drawn0.refl _⟩
end Go.Proofs.YtfdikkdbmlcjiaaGreatDoor.M
end
section
/- Laid by this session's program hbprint.py out of the translation: the function hornbook/hex.Digit and its contract. -/
namespace Go.Proofs.YtfdikkdbmlcjiaaGreatDoor.M
open Go.RowKit Go.Proofs.YtfdikkdbmlcjiaaGreatDoorW.PrintWords Go.Proofs.YtfdikkdbmlcjiaaGreatDoorW.PrintLast Go.Proofs.YtfdikkdbmlcjiaaGreatDoorW.PrintMore
attribute [local go_sem] max2_int min2_int max_two min_two max_three min_three max_four min_four
set_option linter.unusedVariables false
set_option linter.unusedSimpArgs false
def hex_Digit.j0 : Nat → Int → Bool → Option (Int × Bool)
  | 0, _, _ => none
  | k + 1, x0, x10 => if x10 = true then (if (wrap64 (x0 - 32)) < 48 then (some (0, false)) else (if (wrap64 (x0 - 32)) > 70 then (some (0, false)) else ((strings_IndexByte.f (⟨#[48, 49, 50, 51, 52, 53, 54, 55, 56, 57, 65, 66, 67, 68, 69, 70]⟩ : ByteArray) ((wrap64 (x0 - 32)) % 256)).bind fun t109 => (some (mx t109 0, decide (t109 ≥ 0)))))) else (if x0 < 48 then (some (0, false)) else (if x0 > 70 then (some (0, false)) else ((strings_IndexByte.f (⟨#[48, 49, 50, 51, 52, 53, 54, 55, 56, 57, 65, 66, 67, 68, 69, 70]⟩ : ByteArray) ((x0) % 256)).bind fun t110 => (some (mx t110 0, decide (t110 ≥ 0))))))
def hex_Digit.f (k : Nat) (a0 : Int) : Option (Int × Bool) := if a0 ≥ 97 then (hex_Digit.j0 k a0 (decide (a0 ≤ 102))) else (hex_Digit.j0 k a0 false)
theorem hex_Digit.mono_l : ∀ k, (∀ y0 y1, LeO (hex_Digit.j0 k y0 y1) (hex_Digit.j0 (k + 1) y0 y1))
  | 0 => fun _ _ r h => by simp [hex_Digit.j0] at h
  | k + 1 => by
    have ih0 := hex_Digit.mono_l k
    · intro y0 y1
      unfold hex_Digit.j0
      repeat' first
      | (with_reducible exact ih0 _ _)
      | (with_reducible exact LeO.refl _)
      | (with_reducible exact LeO.none _)
      | (with_reducible refine LeO.ite ?_ ?_)
      | (with_reducible refine LeO.bind ?_ (fun _ => ?_))
      | exact ih0 _ _
      | exact LeO.none _
      | refine LeO.ite ?_ ?_
      | refine LeO.bind ?_ (fun _ => ?_)
theorem hex_Digit.mono : ∀ a0 k, LeO (hex_Digit.f k a0) (hex_Digit.f (k + 1) a0) := by
  intro a0 k
  have ih0 := hex_Digit.mono_l k
  unfold hex_Digit.f
  repeat' first
      | (with_reducible exact ih0 _ _)
      | (with_reducible exact LeO.refl _)
      | (with_reducible exact LeO.none _)
      | (with_reducible refine LeO.ite ?_ ?_)
      | (with_reducible refine LeO.bind ?_ (fun _ => ?_))
      | exact ih0 _ _
      | exact LeO.none _
      | refine LeO.ite ?_ ?_
      | refine LeO.bind ?_ (fun _ => ?_)
set_option maxHeartbeats 8000000 in
set_option maxRecDepth 100000 in
theorem hex_Digit.calls (k : Nat) (a0 : Int) (r1 : Int) (r2 : Bool) (w : World) (h : hex_Digit.f k a0 = some (r1, r2)) :
    Calls Tryz.prog 38 #[.int .i64 a0] w fun e w' => e = .returned (.tuple #[.int .i64 r1, .bool r2]) ∧ Below w.heap.size w w' := by
  have HB := Aside0.mk (Below.refl w.heap.size w)
  have H : (if a0 ≥ 97 then (hex_Digit.j0 k a0 (decide (a0 ≤ 102))) else (hex_Digit.j0 k a0 false)) = some (r1, r2) := h
  clear h
  have HC2 := Aside0.mk H
  clear H
  go_enter Tryz.func38, Tryz.ntmps38
  go_upto_region 1 with (fail)
  go_cut [10] (fun v10 wc => ∃ (kq : Nat) (x10_1 : Bool), v10 = .bool x10_1 ∧ Aside0 (hex_Digit.j0 kq a0 x10_1 = some (r1, r2)) ∧ Aside0 (kq ≤ k) ∧ Aside0 (Below w.heap.size w wc))
  case first =>
    have H := HC2.out
    clear HC2
    by_cases c3 : a0 ≥ 97
    · rw [if_pos c3] at H
      have c3b0 : decide (97 ≤ a0) = true := decide_eq_true c3
      clear c3
      (first | rw [c3b0] | (simp only [i64_w, i32_w]; rw [c3b0]) | skip)
      have H' := Aside0.mk H
      clear H
      go_wp2
      go_meet
      case rel => exact ⟨_, (decide (a0 ≤ 102)), (by first | rfl | (simp; done) | (simp [*]; done)), H', ⟨by first | omega | exact Nat.le_refl _⟩, ⟨by repeat (first | (with_reducible first | exact HB.out | apply below_alloc | apply pw_below_drewN | apply below_drew1) | exact HB.out)⟩⟩
    · rw [if_neg c3] at H
      have c3b0 : decide (97 ≤ a0) = false := decide_eq_false c3
      clear c3
      (first | rw [c3b0] | (simp only [i64_w, i32_w]; rw [c3b0]) | skip)
      have H' := Aside0.mk H
      clear H
      go_wp2
      go_meet
      case rel => exact ⟨_, (false), (by first | rfl | (simp; done) | (simp [*]; done)), H', ⟨by first | omega | exact Nat.le_refl _⟩, ⟨by repeat (first | (with_reducible first | exact HB.out | apply below_alloc | apply pw_below_drewN | apply below_drew1) | exact HB.out)⟩⟩
  case rest =>
    clear HC2
    try clear p2
    try clear c3
    try clear c3b0
    obtain ⟨kq, x10_1, rfl, HA, HJ1, HB⟩ := hcut
    cases kq with
    | zero => exact absurd HA.out (by simp [hex_Digit.j0])
    | succ kj1 =>
      have H := HA.out
      clear HA
      simp only [hex_Digit.j0] at H
      by_cases c4 : x10_1 = true
      · subst c4
        have H1 : (if (wrap64 (a0 - 32)) < 48 then (some (0, false)) else (if (wrap64 (a0 - 32)) > 70 then (some (0, false)) else ((strings_IndexByte.f (⟨#[48, 49, 50, 51, 52, 53, 54, 55, 56, 57, 65, 66, 67, 68, 69, 70]⟩ : ByteArray) ((wrap64 (a0 - 32)) % 256)).bind fun t109 => (some (mx t109 0, decide (t109 ≥ 0)))))) = some (r1, r2) := by rw [if_pos rfl] at H; exact H
        clear H
        have H := H1
        clear H1
        by_cases c5 : (wrap64 (a0 - 32)) < 48
        · rw [if_pos c5] at H
          have c5b0 : decide ((wrap64 (a0 - 32)) < 48) = true := decide_eq_true c5
          clear c5
          simp only [Option.some.injEq, Prod.mk.injEq] at H
          obtain ⟨rfl, rfl⟩ := H
          go_wp2
          go_ret2
          exact ⟨by first | rfl | (simp [errW_none, errW_some] <;> rfl) | (simp [*, errW_none, errW_some] <;> rfl), by repeat (first | (with_reducible first | exact HB.out | apply below_alloc | apply pw_below_drewN | apply below_drew1) | exact HB.out)⟩
        · rw [if_neg c5] at H
          have c5b0 : decide ((wrap64 (a0 - 32)) < 48) = false := decide_eq_false c5
          clear c5
          by_cases c6 : (wrap64 (a0 - 32)) > 70
          · rw [if_pos c6] at H
            have c6b0 : decide (70 < (wrap64 (a0 - 32))) = true := decide_eq_true c6
            clear c6
            simp only [Option.some.injEq, Prod.mk.injEq] at H
            obtain ⟨rfl, rfl⟩ := H
            go_wp2
            go_ret2
            exact ⟨by first | rfl | (simp [errW_none, errW_some] <;> rfl) | (simp [*, errW_none, errW_some] <;> rfl), by repeat (first | (with_reducible first | exact HB.out | apply below_alloc | apply pw_below_drewN | apply below_drew1) | exact HB.out)⟩
          · rw [if_neg c6] at H
            have c6b0 : decide (70 < (wrap64 (a0 - 32))) = false := decide_eq_false c6
            clear c6
            replace H := Option.bind_eq_some_iff.mp H
            obtain ⟨t109, A70, H⟩ := H
            replace H : (some (mx t109 0, decide (t109 ≥ 0))) = some (r1, r2) := H
            have A7 := Aside0.mk A70
            clear A70
            obtain ⟨ji8, hji8⟩ : ∃ j_ : Int, (mx t109 0) = j_ := ⟨_, rfl⟩
            replace H : (some (ji8, decide (t109 ≥ 0))) = some (r1, r2) := by first | (rw [hji8] at H; exact H) | (simp only [hji8] at H ⊢; exact H)
            (try rw [hji8] at A7)
            (try (have hji8l : 0 ≤ ji8 := by (rw [← hji8]; unfold mx; (repeat' split) <;> omega)))
            (try (have hji8m : 0 ≤ ji8 := by omega))
            have hji8_ : (if t109 < 0 then 0 else t109) = ji8 := hji8
            simp only [Option.some.injEq, Prod.mk.injEq] at H
            obtain ⟨rfl, rfl⟩ := H
            go_wp2_with (first | ((with_reducible refine gate_callee (f := 35) rfl ?_); refine goesL_ (some 21) rfl rfl Tryz.func35 (by kernel_rfl) rfl #[.string (⟨#[48, 49, 50, 51, 52, 53, 54, 55, 56, 57, 65, 66, 67, 68, 69, 70]⟩ : ByteArray), .int .u8 ((wrap64 (a0 - 32)) % 256)] rfl (by (try simp only [List.map_toArray, List.map_cons, List.map_nil]); first | done | rfl | (simp only [List.length_drop, List.length_take]; rfl)) ?_; (with_reducible refine (strings_IndexByte.calls (⟨#[48, 49, 50, 51, 52, 53, 54, 55, 56, 57, 65, 66, 67, 68, 69, 70]⟩ : ByteArray) ((wrap64 (a0 - 32)) % 256) t109 _ A7.out).mono ?_); rintro e w' ⟨rfl, ⟨nd, rfl⟩⟩; refine ⟨_, rfl, ?_⟩))
            go_ret2
            exact ⟨by first | rfl | (simp [errW_none, errW_some] <;> rfl) | (simp only [← hji8]; first | rfl | (simp [errW_none, errW_some] <;> rfl)) | (simp [*, errW_none, errW_some] <;> rfl), by repeat (first | (with_reducible first | exact HB.out | apply below_alloc | apply pw_below_drewN | apply below_drew1) | exact HB.out)⟩
      · replace c4 := Bool.eq_false_iff.mpr c4
        subst c4
        have H1 : (if a0 < 48 then (some (0, false)) else (if a0 > 70 then (some (0, false)) else ((strings_IndexByte.f (⟨#[48, 49, 50, 51, 52, 53, 54, 55, 56, 57, 65, 66, 67, 68, 69, 70]⟩ : ByteArray) ((a0) % 256)).bind fun t110 => (some (mx t110 0, decide (t110 ≥ 0)))))) = some (r1, r2) := by rw [if_neg (show ¬ (false = true) by decide)] at H; exact H
        clear H
        have H := H1
        clear H1
        by_cases c9 : a0 < 48
        · rw [if_pos c9] at H
          have c9b0 : decide (a0 < 48) = true := decide_eq_true c9
          clear c9
          simp only [Option.some.injEq, Prod.mk.injEq] at H
          obtain ⟨rfl, rfl⟩ := H
          go_wp2
          go_ret2
          exact ⟨by first | rfl | (simp [errW_none, errW_some] <;> rfl) | (simp [*, errW_none, errW_some] <;> rfl), by repeat (first | (with_reducible first | exact HB.out | apply below_alloc | apply pw_below_drewN | apply below_drew1) | exact HB.out)⟩
        · rw [if_neg c9] at H
          have c9b0 : decide (a0 < 48) = false := decide_eq_false c9
          clear c9
          by_cases c10 : a0 > 70
          · rw [if_pos c10] at H
            have c10b0 : decide (70 < a0) = true := decide_eq_true c10
            clear c10
            simp only [Option.some.injEq, Prod.mk.injEq] at H
            obtain ⟨rfl, rfl⟩ := H
            go_wp2
            go_ret2
            exact ⟨by first | rfl | (simp [errW_none, errW_some] <;> rfl) | (simp [*, errW_none, errW_some] <;> rfl), by repeat (first | (with_reducible first | exact HB.out | apply below_alloc | apply pw_below_drewN | apply below_drew1) | exact HB.out)⟩
          · rw [if_neg c10] at H
            have c10b0 : decide (70 < a0) = false := decide_eq_false c10
            clear c10
            replace H := Option.bind_eq_some_iff.mp H
            obtain ⟨t110, A110, H⟩ := H
            replace H : (some (mx t110 0, decide (t110 ≥ 0))) = some (r1, r2) := H
            have A11 := Aside0.mk A110
            clear A110
            obtain ⟨ji12, hji12⟩ : ∃ j_ : Int, (mx t110 0) = j_ := ⟨_, rfl⟩
            replace H : (some (ji12, decide (t110 ≥ 0))) = some (r1, r2) := by first | (rw [hji12] at H; exact H) | (simp only [hji12] at H ⊢; exact H)
            (try rw [hji12] at A11)
            (try (have hji12l : 0 ≤ ji12 := by (rw [← hji12]; unfold mx; (repeat' split) <;> omega)))
            (try (have hji12m : 0 ≤ ji12 := by omega))
            have hji12_ : (if t110 < 0 then 0 else t110) = ji12 := hji12
            simp only [Option.some.injEq, Prod.mk.injEq] at H
            obtain ⟨rfl, rfl⟩ := H
            go_wp2_with (first | ((with_reducible refine gate_callee (f := 35) rfl ?_); refine goesL_ (some 21) rfl rfl Tryz.func35 (by kernel_rfl) rfl #[.string (⟨#[48, 49, 50, 51, 52, 53, 54, 55, 56, 57, 65, 66, 67, 68, 69, 70]⟩ : ByteArray), .int .u8 ((a0) % 256)] rfl (by (try simp only [List.map_toArray, List.map_cons, List.map_nil]); first | done | rfl | (simp only [List.length_drop, List.length_take]; rfl)) ?_; (with_reducible refine (strings_IndexByte.calls (⟨#[48, 49, 50, 51, 52, 53, 54, 55, 56, 57, 65, 66, 67, 68, 69, 70]⟩ : ByteArray) ((a0) % 256) t110 _ A11.out).mono ?_); rintro e w' ⟨rfl, ⟨nd, rfl⟩⟩; refine ⟨_, rfl, ?_⟩))
            go_ret2
            exact ⟨by first | rfl | (simp [errW_none, errW_some] <;> rfl) | (simp only [← hji12]; first | rfl | (simp [errW_none, errW_some] <;> rfl)) | (simp [*, errW_none, errW_some] <;> rfl), by repeat (first | (with_reducible first | exact HB.out | apply below_alloc | apply pw_below_drewN | apply below_drew1) | exact HB.out)⟩
end Go.Proofs.YtfdikkdbmlcjiaaGreatDoor.M
end
section
/- Laid by this session's program hbprint.py out of the translation: the function hornbook/lex.plain and its contract. -/
namespace Go.Proofs.YtfdikkdbmlcjiaaGreatDoor.M
open Go.RowKit Go.Proofs.YtfdikkdbmlcjiaaGreatDoorW.PrintWords Go.Proofs.YtfdikkdbmlcjiaaGreatDoorW.PrintLast Go.Proofs.YtfdikkdbmlcjiaaGreatDoorW.PrintMore
attribute [local go_sem] max2_int min2_int max_two min_two max_three min_three max_four min_four
set_option linter.unusedVariables false
set_option linter.unusedSimpArgs false
def lex_plain.f (k : Nat) (a0 : Int) : Option (Bool) := (lex_Class.f k (wrap64 (a0))).bind fun t186 => (if t186 = 0 then (if a0 = 35 then (some false) else (if a0 ≥ 33 then (some (decide (a0 ≤ 126))) else (some false))) else (some false))
set_option maxHeartbeats 8000000 in
set_option maxRecDepth 100000 in
theorem lex_plain.calls (k : Nat) (a0 : Int) (r : Bool) (w : World) (h : lex_plain.f k a0 = some r) :
    Calls Tryz.prog 46 #[.int .u8 a0] w fun e w' => e = .returned (.bool r) ∧ Below w.heap.size w w' := by
  have HB := Aside0.mk (Below.refl w.heap.size w)
  have H : ((lex_Class.f k (wrap64 (a0))).bind fun t186 => (if t186 = 0 then (if a0 = 35 then (some false) else (if a0 ≥ 33 then (some (decide (a0 ≤ 126))) else (some false))) else (some false))) = some r := h
  clear h
  replace H := Option.bind_eq_some_iff.mp H
  obtain ⟨t186, A20, H⟩ := H
  replace H : (if t186 = 0 then (if a0 = 35 then (some false) else (if a0 ≥ 33 then (some (decide (a0 ≤ 126))) else (some false))) else (some false)) = some r := H
  have A2 := Aside0.mk A20
  clear A20
  by_cases c3 : t186 = 0
  · rw [if_pos c3] at H
    have c3b0 : (t186 == 0) = true := beq_iff_eq.mpr c3
    have c3b1 : (t186 != 0) = false := bne_eq_false_iff_eq.mpr c3
    clear c3
    by_cases c4 : a0 = 35
    · rw [if_pos c4] at H
      have c4b0 : (a0 == 35) = true := beq_iff_eq.mpr c4
      have c4b1 : (a0 != 35) = false := bne_eq_false_iff_eq.mpr c4
      clear c4
      obtain rfl := Option.some.inj H
      go_enter Tryz.func46, Tryz.ntmps46
      go_wp2_with (first | ((with_reducible refine gate_callee (f := 12) rfl ?_); refine goesL_ (some 5) rfl rfl Tryz.func12 (by kernel_rfl) rfl #[.int .i64 (wrap64 (a0))] rfl (by (try simp only [List.map_toArray, List.map_cons, List.map_nil]); first | done | rfl | (simp only [List.length_drop, List.length_take]; rfl)) ?_; (with_reducible refine (lex_Class.calls k (wrap64 (a0)) t186 _ A2.out).mono ?_); rintro e w5 ⟨rfl, hb⟩; refine ⟨_, rfl, ?_⟩; have n0_ := Aside0.mk (below_step (by repeat (first | (with_reducible first | exact HB.out | apply below_alloc | apply pw_below_drewN | apply below_drew1) | exact HB.out)) hb); clear HB; have HB := n0_; clear n0_; (try clear hb); (try clear hb2); (try clear hk); (try clear hi)))
      go_ret
      exact ⟨by first | rfl | (simp [errW_none, errW_some] <;> rfl) | (simp [*, errW_none, errW_some] <;> rfl), by repeat (first | (with_reducible first | exact HB.out | apply below_alloc | apply pw_below_drewN | apply below_drew1) | exact HB.out)⟩
    · rw [if_neg c4] at H
      have c4b0 : (a0 == 35) = false := beq_eq_false_iff_ne.mpr c4
      have c4b1 : (a0 != 35) = true := bne_iff_ne.mpr c4
      by_cases c6 : a0 ≥ 33
      · rw [if_pos c6] at H
        have c6b0 : decide (33 ≤ a0) = true := decide_eq_true c6
        clear c6
        obtain rfl := Option.some.inj H
        go_enter Tryz.func46, Tryz.ntmps46
        go_wp2_with (first | ((with_reducible refine gate_callee (f := 12) rfl ?_); refine goesL_ (some 5) rfl rfl Tryz.func12 (by kernel_rfl) rfl #[.int .i64 (wrap64 (a0))] rfl (by (try simp only [List.map_toArray, List.map_cons, List.map_nil]); first | done | rfl | (simp only [List.length_drop, List.length_take]; rfl)) ?_; (with_reducible refine (lex_Class.calls k (wrap64 (a0)) t186 _ A2.out).mono ?_); rintro e w7 ⟨rfl, hb⟩; refine ⟨_, rfl, ?_⟩; have n0_ := Aside0.mk (below_step (by repeat (first | (with_reducible first | exact HB.out | apply below_alloc | apply pw_below_drewN | apply below_drew1) | exact HB.out)) hb); clear HB; have HB := n0_; clear n0_; (try clear hb); (try clear hb2); (try clear hk); (try clear hi)))
        go_ret
        exact ⟨by first | rfl | (simp [errW_none, errW_some] <;> rfl) | (simp [*, errW_none, errW_some] <;> rfl), by repeat (first | (with_reducible first | exact HB.out | apply below_alloc | apply pw_below_drewN | apply below_drew1) | exact HB.out)⟩
      · rw [if_neg c6] at H
        have c6b0 : decide (33 ≤ a0) = false := decide_eq_false c6
        clear c6
        obtain rfl := Option.some.inj H
        go_enter Tryz.func46, Tryz.ntmps46
        go_wp2_with (first | ((with_reducible refine gate_callee (f := 12) rfl ?_); refine goesL_ (some 5) rfl rfl Tryz.func12 (by kernel_rfl) rfl #[.int .i64 (wrap64 (a0))] rfl (by (try simp only [List.map_toArray, List.map_cons, List.map_nil]); first | done | rfl | (simp only [List.length_drop, List.length_take]; rfl)) ?_; (with_reducible refine (lex_Class.calls k (wrap64 (a0)) t186 _ A2.out).mono ?_); rintro e w8 ⟨rfl, hb⟩; refine ⟨_, rfl, ?_⟩; have n0_ := Aside0.mk (below_step (by repeat (first | (with_reducible first | exact HB.out | apply below_alloc | apply pw_below_drewN | apply below_drew1) | exact HB.out)) hb); clear HB; have HB := n0_; clear n0_; (try clear hb); (try clear hb2); (try clear hk); (try clear hi)))
        go_ret
        exact ⟨by first | rfl | (simp [errW_none, errW_some] <;> rfl) | (simp [*, errW_none, errW_some] <;> rfl), by repeat (first | (with_reducible first | exact HB.out | apply below_alloc | apply pw_below_drewN | apply below_drew1) | exact HB.out)⟩
  · rw [if_neg c3] at H
    have c3b0 : (t186 == 0) = false := beq_eq_false_iff_ne.mpr c3
    have c3b1 : (t186 != 0) = true := bne_iff_ne.mpr c3
    obtain rfl := Option.some.inj H
    go_enter Tryz.func46, Tryz.ntmps46
    go_wp2_with (first | ((with_reducible refine gate_callee (f := 12) rfl ?_); refine goesL_ (some 5) rfl rfl Tryz.func12 (by kernel_rfl) rfl #[.int .i64 (wrap64 (a0))] rfl (by (try simp only [List.map_toArray, List.map_cons, List.map_nil]); first | done | rfl | (simp only [List.length_drop, List.length_take]; rfl)) ?_; (with_reducible refine (lex_Class.calls k (wrap64 (a0)) t186 _ A2.out).mono ?_); rintro e w9 ⟨rfl, hb⟩; refine ⟨_, rfl, ?_⟩; have n0_ := Aside0.mk (below_step (by repeat (first | (with_reducible first | exact HB.out | apply below_alloc | apply pw_below_drewN | apply below_drew1) | exact HB.out)) hb); clear HB; have HB := n0_; clear n0_; (try clear hb); (try clear hb2); (try clear hk); (try clear hi)))
    go_ret
    exact ⟨by first | rfl | (simp [errW_none, errW_some] <;> rfl) | (simp [*, errW_none, errW_some] <;> rfl), by repeat (first | (with_reducible first | exact HB.out | apply below_alloc | apply pw_below_drewN | apply below_drew1) | exact HB.out)⟩
end Go.Proofs.YtfdikkdbmlcjiaaGreatDoor.M
end
section
namespace Go.Proofs.YtfdikkdbmlcjiaaGreatDoor.M
open Go.RowKit Go.Proofs.YtfdikkdbmlcjiaaGreatDoorW.PrintWords
set_option linter.unusedVariables false
def isDigB (c : UInt8) : Bool := decide (48 ≤ c.toNat) && decide (c.toNat ≤ 57)
def tenDigits : List UInt8 := [48, 49, 50, 51, 52, 53, 54, 55, 56, 57]
theorem ten_contains (c : UInt8) : tenDigits.contains c = isDigB c := by
  have : ∀ n : Fin 256, tenDigits.contains n.val.toUInt8 = isDigB n.val.toUInt8 := by decide +kernel
  have h := this ⟨c.toNat, c.toNat_lt⟩
  simpa using h
theorem dropWhile_nil (p : UInt8 → Bool) : ∀ l : List UInt8, l.dropWhile p = [] ↔ ∀ c ∈ l, p c = true
  | [] => by simp
  | x :: l => by
    rw [List.dropWhile_cons]
    split
    · rename_i hx
      rw [dropWhile_nil p l]
      simp [hx]
    · rename_i hx
      simp [hx]
theorem trim_nil (l : List UInt8) : (Lib.trimS l tenDigits = []) ↔ l.all isDigB = true := by
  unfold Lib.trimS Lib.trimLeftS Lib.trimRightS
  have e : (fun x => tenDigits.contains x) = isDigB := funext ten_contains
  rw [e]
  constructor
  · intro h
    rw [dropWhile_nil] at h
    rw [List.all_eq_true]
    intro c hc
    by_cases hd : isDigB c = true
    · exact hd
    · have key : ∀ m : List UInt8, c ∈ m → c ∈ m.dropWhile isDigB := by
        intro m
        induction m with
        | nil => intro h; exact h
        | cons x m ih =>
          intro hm
          rw [List.dropWhile_cons]
          split
          · rename_i hx
            rcases List.mem_cons.1 hm with rfl | hm
            · exact absurd hx hd
            · exact ih hm
          · exact hm
      exact h c (by rw [List.mem_reverse]; exact key _ (List.mem_reverse.2 hc))
  · intro h
    rw [List.all_eq_true] at h
    have : l.reverse.dropWhile isDigB = [] := by
      rw [dropWhile_nil]
      intro c hc
      exact h c (List.mem_reverse.1 hc)
    rw [this]; rfl
def strings_Trim.f (a0 a1 : ByteArray) : Option ByteArray := if a0.size ≤ 9223372036854775807 then (if a1.size < 4294967281 then (if a1.data.toList.all (fun b => decide (b.toNat < 128)) = true then some ⟨(Lib.trimS a0.data.toList a1.data.toList).toArray⟩ else none) else none) else none
theorem strings_Trim.calls (a0 a1 : ByteArray) (r : ByteArray) (w : World) (h : strings_Trim.f a0 a1 = some r) :
    Calls Tryz.prog 62 #[.string a0, .string a1] w fun e w' => e = .returned (.string r) ∧ Below w.heap.size w w' := by
  unfold strings_Trim.f at h
  split at h
  case isFalse => cases h
  rename_i h1
  split at h
  case isFalse => cases h
  rename_i h2
  split at h
  case isFalse => cases h
  rename_i h3
  obtain rfl := Option.some.inj h
  exact Any.strings_Trim_laid Tryz.lays160 (by kernel_rfl) a0 a1 w h1 h2 (ascii_of_all h3)
end Go.Proofs.YtfdikkdbmlcjiaaGreatDoor.M
end
section
/- Laid by this session's program hbprint.py out of the translation: the function hornbook/lex.whole and its contract. -/
namespace Go.Proofs.YtfdikkdbmlcjiaaGreatDoor.M
open Go.RowKit Go.Proofs.YtfdikkdbmlcjiaaGreatDoorW.PrintWords Go.Proofs.YtfdikkdbmlcjiaaGreatDoorW.PrintLast Go.Proofs.YtfdikkdbmlcjiaaGreatDoorW.PrintMore
attribute [local go_sem] max2_int min2_int max_two min_two max_three min_three max_four min_four
set_option linter.unusedVariables false
set_option linter.unusedSimpArgs false
def lex_whole.f (a0 : ByteArray) : Option (Bool) := if a0.toList = ([] : List UInt8) then (some false) else (if 0 < (a0.size : Int) then (if (bt a0 0) = 43 then (if 1 ≤ (a0.size : Int) then (if (a0.extract 1 a0.size).toList = ([] : List UInt8) then (some false) else ((strings_Trim.f (a0.extract 1 a0.size) (⟨#[48, 49, 50, 51, 52, 53, 54, 55, 56, 57]⟩ : ByteArray)).bind fun t138 => (some (t138.toList == ([] : List UInt8))))) else (none)) else (if (bt a0 0) = 45 then (if 1 ≤ (a0.size : Int) then (if (a0.extract 1 a0.size).toList = ([] : List UInt8) then (some false) else ((strings_Trim.f (a0.extract 1 a0.size) (⟨#[48, 49, 50, 51, 52, 53, 54, 55, 56, 57]⟩ : ByteArray)).bind fun t139 => (some (t139.toList == ([] : List UInt8))))) else (none)) else ((strings_Trim.f a0 (⟨#[48, 49, 50, 51, 52, 53, 54, 55, 56, 57]⟩ : ByteArray)).bind fun t140 => (some (t140.toList == ([] : List UInt8)))))) else (none))
set_option maxHeartbeats 8000000 in
set_option maxRecDepth 100000 in
theorem lex_whole.calls (a0 : ByteArray) (r : Bool) (w : World) (h : lex_whole.f a0 = some r) :
    Calls Tryz.prog 54 #[.string a0] w fun e w' => e = .returned (.bool r) ∧ Below w.heap.size w w' := by
  have HB := Aside0.mk (Below.refl w.heap.size w)
  have H : (if a0.toList = ([] : List UInt8) then (some false) else (if 0 < (a0.size : Int) then (if (bt a0 0) = 43 then (if 1 ≤ (a0.size : Int) then (if (a0.extract 1 a0.size).toList = ([] : List UInt8) then (some false) else ((strings_Trim.f (a0.extract 1 a0.size) (⟨#[48, 49, 50, 51, 52, 53, 54, 55, 56, 57]⟩ : ByteArray)).bind fun t138 => (some (t138.toList == ([] : List UInt8))))) else (none)) else (if (bt a0 0) = 45 then (if 1 ≤ (a0.size : Int) then (if (a0.extract 1 a0.size).toList = ([] : List UInt8) then (some false) else ((strings_Trim.f (a0.extract 1 a0.size) (⟨#[48, 49, 50, 51, 52, 53, 54, 55, 56, 57]⟩ : ByteArray)).bind fun t139 => (some (t139.toList == ([] : List UInt8))))) else (none)) else ((strings_Trim.f a0 (⟨#[48, 49, 50, 51, 52, 53, 54, 55, 56, 57]⟩ : ByteArray)).bind fun t140 => (some (t140.toList == ([] : List UInt8)))))) else (none))) = some r := h
  clear h
  by_cases c2 : a0.toList = ([] : List UInt8)
  · rw [if_pos c2] at H
    have c2b0 : (a0.toList == ([] : List UInt8)) = true := beq_iff_eq.mpr c2
    have c2b1 : (a0.toList != ([] : List UInt8)) = false := bne_eq_false_iff_eq.mpr c2
    clear c2
    obtain rfl := Option.some.inj H
    go_enter Tryz.func54, Tryz.ntmps54
    go_wp2
    go_ret
    exact ⟨by first | rfl | (simp [errW_none, errW_some] <;> rfl) | (simp [*, errW_none, errW_some] <;> rfl), by repeat (first | (with_reducible first | exact HB.out | apply below_alloc | apply pw_below_drewN | apply below_drew1) | exact HB.out)⟩
  · rw [if_neg c2] at H
    have c2b0 : (a0.toList == ([] : List UInt8)) = false := beq_eq_false_iff_ne.mpr c2
    have c2b1 : (a0.toList != ([] : List UInt8)) = true := bne_iff_ne.mpr c2
    by_cases c3 : 0 < (a0.size : Int)
    · rw [if_pos c3] at H
      have c3b0 : decide (0 < (a0.size : Int)) = true := decide_eq_true c3
      have c3b1 : decide (0 < a0.size) = true := decide_eq_true (by omega)
      clear c3
      by_cases c5 : (bt a0 0) = 43
      · rw [if_pos c5] at H
        have c5b0 : ((bt a0 0) == 43) = true := beq_iff_eq.mpr c5
        have c5b1 : ((bt a0 0) != 43) = false := bne_eq_false_iff_eq.mpr c5
        clear c5
        by_cases c6 : 1 ≤ (a0.size : Int)
        · rw [if_pos c6] at H
          have c6b0 := eq_true c6
          have c6b1 : decide (1 ≤ (a0.size : Int)) = true := decide_eq_true c6
          clear c6
          by_cases c7 : (a0.extract 1 a0.size).toList = ([] : List UInt8)
          · rw [if_pos c7] at H
            have c7b0 : ((a0.extract 1 a0.size).toList == ([] : List UInt8)) = true := beq_iff_eq.mpr c7
            have c7b1 : ((a0.extract 1 a0.size).toList != ([] : List UInt8)) = false := bne_eq_false_iff_eq.mpr c7
            clear c7
            obtain rfl := Option.some.inj H
            have p4 : 0 ≤ (0 : Int) := (by omega)
            have q4 : 0 < a0.size := (by have : (0 : Int) < (a0.size : Int) := of_decide_eq_true (by first | (with_reducible assumption) | assumption); omega)
            have hx4 : ∀ h : 0 < a0.size, ((a0[0]'h).toNat : Int) = bt a0 0 := bt_at a0 0
            clear p4
            have qi4 : (0 < (a0.size : Int)) = True := eq_true (of_decide_eq_true (by first | (with_reducible assumption) | assumption))
            replace q4 := eq_true q4
            go_enter Tryz.func54, Tryz.ntmps54
            go_wp2
            go_ret
            exact ⟨by first | rfl | (simp [errW_none, errW_some] <;> rfl) | (simp [*, errW_none, errW_some] <;> rfl), by repeat (first | (with_reducible first | exact HB.out | apply below_alloc | apply pw_below_drewN | apply below_drew1) | exact HB.out)⟩
          · rw [if_neg c7] at H
            have c7b0 : ((a0.extract 1 a0.size).toList == ([] : List UInt8)) = false := beq_eq_false_iff_ne.mpr c7
            have c7b1 : ((a0.extract 1 a0.size).toList != ([] : List UInt8)) = true := bne_iff_ne.mpr c7
            replace H := Option.bind_eq_some_iff.mp H
            obtain ⟨t138, A80, H⟩ := H
            replace H : (some (t138.toList == ([] : List UInt8))) = some r := H
            have A8 := Aside0.mk A80
            clear A80
            obtain rfl := Option.some.inj H
            have p4 : 0 ≤ (0 : Int) := (by omega)
            have q4 : 0 < a0.size := (by have : (0 : Int) < (a0.size : Int) := of_decide_eq_true (by first | (with_reducible assumption) | assumption); omega)
            have hx4 : ∀ h : 0 < a0.size, ((a0[0]'h).toNat : Int) = bt a0 0 := bt_at a0 0
            clear p4
            have qi4 : (0 < (a0.size : Int)) = True := eq_true (of_decide_eq_true (by first | (with_reducible assumption) | assumption))
            replace q4 := eq_true q4
            go_enter Tryz.func54, Tryz.ntmps54
            go_wp2_with (first | (go_at_call 62; (with_reducible refine (strings_Trim.calls (a0.extract 1 a0.size) (⟨#[48, 49, 50, 51, 52, 53, 54, 55, 56, 57]⟩ : ByteArray) t138 _ A8.out).mono ?_); rintro e w9 ⟨rfl, hb⟩; have n0_ := Aside0.mk (below_step (by repeat (first | (with_reducible first | exact HB.out | apply below_alloc | apply pw_below_drewN | apply below_drew1) | exact HB.out)) hb); clear HB; have HB := n0_; clear n0_; (try clear hb); (try clear hb2); (try clear hk); (try clear hi)))
            go_ret
            exact ⟨by first | rfl | (simp [errW_none, errW_some] <;> rfl) | (simp [*, errW_none, errW_some] <;> rfl), by repeat (first | (with_reducible first | exact HB.out | apply below_alloc | apply pw_below_drewN | apply below_drew1) | exact HB.out)⟩
        · rw [if_neg c6] at H
          exact absurd H (by simp)
      · rw [if_neg c5] at H
        have c5b0 : ((bt a0 0) == 43) = false := beq_eq_false_iff_ne.mpr c5
        have c5b1 : ((bt a0 0) != 43) = true := bne_iff_ne.mpr c5
        by_cases c11 : (bt a0 0) = 45
        · rw [if_pos c11] at H
          have c11b0 : ((bt a0 0) == 45) = true := beq_iff_eq.mpr c11
          have c11b1 : ((bt a0 0) != 45) = false := bne_eq_false_iff_eq.mpr c11
          clear c11
          by_cases c12 : 1 ≤ (a0.size : Int)
          · rw [if_pos c12] at H
            have c12b0 := eq_true c12
            have c12b1 : decide (1 ≤ (a0.size : Int)) = true := decide_eq_true c12
            clear c12
            by_cases c13 : (a0.extract 1 a0.size).toList = ([] : List UInt8)
            · rw [if_pos c13] at H
              have c13b0 : ((a0.extract 1 a0.size).toList == ([] : List UInt8)) = true := beq_iff_eq.mpr c13
              have c13b1 : ((a0.extract 1 a0.size).toList != ([] : List UInt8)) = false := bne_eq_false_iff_eq.mpr c13
              clear c13
              obtain rfl := Option.some.inj H
              have p4 : 0 ≤ (0 : Int) := (by omega)
              have q4 : 0 < a0.size := (by have : (0 : Int) < (a0.size : Int) := of_decide_eq_true (by first | (with_reducible assumption) | assumption); omega)
              have hx4 : ∀ h : 0 < a0.size, ((a0[0]'h).toNat : Int) = bt a0 0 := bt_at a0 0
              clear p4
              have qi4 : (0 < (a0.size : Int)) = True := eq_true (of_decide_eq_true (by first | (with_reducible assumption) | assumption))
              replace q4 := eq_true q4
              have p10 : 0 ≤ (0 : Int) := (by omega)
              have q10 : 0 < a0.size := (by have : (0 : Int) < (a0.size : Int) := of_decide_eq_true (by first | (with_reducible assumption) | assumption); omega)
              have hx10 : ∀ h : 0 < a0.size, ((a0[0]'h).toNat : Int) = bt a0 0 := bt_at a0 0
              clear p10
              have qi10 : (0 < (a0.size : Int)) = True := eq_true (of_decide_eq_true (by first | (with_reducible assumption) | assumption))
              replace q10 := eq_true q10
              go_enter Tryz.func54, Tryz.ntmps54
              go_wp2
              go_ret
              exact ⟨by first | rfl | (simp [errW_none, errW_some] <;> rfl) | (simp [*, errW_none, errW_some] <;> rfl), by repeat (first | (with_reducible first | exact HB.out | apply below_alloc | apply pw_below_drewN | apply below_drew1) | exact HB.out)⟩
            · rw [if_neg c13] at H
              have c13b0 : ((a0.extract 1 a0.size).toList == ([] : List UInt8)) = false := beq_eq_false_iff_ne.mpr c13
              have c13b1 : ((a0.extract 1 a0.size).toList != ([] : List UInt8)) = true := bne_iff_ne.mpr c13
              replace H := Option.bind_eq_some_iff.mp H
              obtain ⟨t139, A140, H⟩ := H
              replace H : (some (t139.toList == ([] : List UInt8))) = some r := H
              have A14 := Aside0.mk A140
              clear A140
              obtain rfl := Option.some.inj H
              have p4 : 0 ≤ (0 : Int) := (by omega)
              have q4 : 0 < a0.size := (by have : (0 : Int) < (a0.size : Int) := of_decide_eq_true (by first | (with_reducible assumption) | assumption); omega)
              have hx4 : ∀ h : 0 < a0.size, ((a0[0]'h).toNat : Int) = bt a0 0 := bt_at a0 0
              clear p4
              have qi4 : (0 < (a0.size : Int)) = True := eq_true (of_decide_eq_true (by first | (with_reducible assumption) | assumption))
              replace q4 := eq_true q4
              have p10 : 0 ≤ (0 : Int) := (by omega)
              have q10 : 0 < a0.size := (by have : (0 : Int) < (a0.size : Int) := of_decide_eq_true (by first | (with_reducible assumption) | assumption); omega)
              have hx10 : ∀ h : 0 < a0.size, ((a0[0]'h).toNat : Int) = bt a0 0 := bt_at a0 0
              clear p10
              have qi10 : (0 < (a0.size : Int)) = True := eq_true (of_decide_eq_true (by first | (with_reducible assumption) | assumption))
              replace q10 := eq_true q10
              go_enter Tryz.func54, Tryz.ntmps54
              go_wp2_with (first | (go_at_call 62; (with_reducible refine (strings_Trim.calls (a0.extract 1 a0.size) (⟨#[48, 49, 50, 51, 52, 53, 54, 55, 56, 57]⟩ : ByteArray) t139 _ A14.out).mono ?_); rintro e w15 ⟨rfl, hb⟩; have n0_ := Aside0.mk (below_step (by repeat (first | (with_reducible first | exact HB.out | apply below_alloc | apply pw_below_drewN | apply below_drew1) | exact HB.out)) hb); clear HB; have HB := n0_; clear n0_; (try clear hb); (try clear hb2); (try clear hk); (try clear hi)))
              go_ret
              exact ⟨by first | rfl | (simp [errW_none, errW_some] <;> rfl) | (simp [*, errW_none, errW_some] <;> rfl), by repeat (first | (with_reducible first | exact HB.out | apply below_alloc | apply pw_below_drewN | apply below_drew1) | exact HB.out)⟩
          · rw [if_neg c12] at H
            exact absurd H (by simp)
        · rw [if_neg c11] at H
          have c11b0 : ((bt a0 0) == 45) = false := beq_eq_false_iff_ne.mpr c11
          have c11b1 : ((bt a0 0) != 45) = true := bne_iff_ne.mpr c11
          replace H := Option.bind_eq_some_iff.mp H
          obtain ⟨t140, A160, H⟩ := H
          replace H : (some (t140.toList == ([] : List UInt8))) = some r := H
          have A16 := Aside0.mk A160
          clear A160
          obtain rfl := Option.some.inj H
          have p4 : 0 ≤ (0 : Int) := (by omega)
          have q4 : 0 < a0.size := (by have : (0 : Int) < (a0.size : Int) := of_decide_eq_true (by first | (with_reducible assumption) | assumption); omega)
          have hx4 : ∀ h : 0 < a0.size, ((a0[0]'h).toNat : Int) = bt a0 0 := bt_at a0 0
          clear p4
          have qi4 : (0 < (a0.size : Int)) = True := eq_true (of_decide_eq_true (by first | (with_reducible assumption) | assumption))
          replace q4 := eq_true q4
          have p10 : 0 ≤ (0 : Int) := (by omega)
          have q10 : 0 < a0.size := (by have : (0 : Int) < (a0.size : Int) := of_decide_eq_true (by first | (with_reducible assumption) | assumption); omega)
          have hx10 : ∀ h : 0 < a0.size, ((a0[0]'h).toNat : Int) = bt a0 0 := bt_at a0 0
          clear p10
          have qi10 : (0 < (a0.size : Int)) = True := eq_true (of_decide_eq_true (by first | (with_reducible assumption) | assumption))
          replace q10 := eq_true q10
          go_enter Tryz.func54, Tryz.ntmps54
          go_wp2_with (first | (go_at_call 62; (with_reducible refine (strings_Trim.calls a0 (⟨#[48, 49, 50, 51, 52, 53, 54, 55, 56, 57]⟩ : ByteArray) t140 _ A16.out).mono ?_); rintro e w17 ⟨rfl, hb⟩; have n0_ := Aside0.mk (below_step (by repeat (first | (with_reducible first | exact HB.out | apply below_alloc | apply pw_below_drewN | apply below_drew1) | exact HB.out)) hb); clear HB; have HB := n0_; clear n0_; (try clear hb); (try clear hb2); (try clear hk); (try clear hi)))
          go_ret
          exact ⟨by first | rfl | (simp [errW_none, errW_some] <;> rfl) | (simp [*, errW_none, errW_some] <;> rfl), by repeat (first | (with_reducible first | exact HB.out | apply below_alloc | apply pw_below_drewN | apply below_drew1) | exact HB.out)⟩
    · rw [if_neg c3] at H
      exact absurd H (by simp)
end Go.Proofs.YtfdikkdbmlcjiaaGreatDoor.M
end
section
namespace Go.Proofs.YtfdikkdbmlcjiaaGreatDoor.M
open Go.RowKit Go.Proofs.YtfdikkdbmlcjiaaGreatDoorW.PrintWords
set_option linter.unusedVariables false
/-- A byte's class: 0 regular, 1 blank, 2 delimiter. -/
def isDelim (c : Int) : Bool := c == 40 || c == 41 || c == 60 || c == 62 || c == 91 || c == 93 || c == 123 || c == 125 || c == 47 || c == 37
def clsOf (c : Int) : Int := if isDelim c then 2 else if isWhite c then 1 else 0
theorem class_eq {k : Nat} (hk : 2 ≤ k) (c : Int) : lex_Class.f k c = some (clsOf c) := by
  obtain ⟨k, rfl⟩ : ∃ m, k = m + 2 := ⟨k - 2, by omega⟩
  by_cases hd : isDelim c = true
  · have e : clsOf c = 2 := by simp [clsOf, hd]
    rw [e]
    simp only [isDelim, Bool.or_eq_true, beq_iff_eq] at hd
    rcases hd with ((((((((rfl | rfl) | rfl) | rfl) | rfl) | rfl) | rfl) | rfl) | rfl) | rfl <;> simp [lex_Class.f, lex_Class.j0, lex_Class.j1]
  · have e : clsOf c = if isWhite c then 1 else 0 := by simp [clsOf, hd]
    rw [e]
    simp only [isDelim, Bool.or_eq_true, beq_iff_eq, not_or] at hd
    obtain ⟨⟨⟨⟨⟨⟨⟨⟨⟨h1, h2⟩, h3⟩, h4⟩, h5⟩, h6⟩, h7⟩, h8⟩, h9⟩, h10⟩ := hd
    simp only [lex_Class.f, lex_Class.j0, lex_Class.j1, hex_White.f, Option.bind_some, if_neg h1, if_neg h2, if_neg h3, if_neg h4, if_neg h5, if_neg h7, if_neg h8, if_neg h9]
    have e6 : (c == 93) = false := by simpa using h6
    have e10 : (c == 37) = false := by simpa using h10
    rw [e6, e10]
    cases isWhite c <;> simp
def isPlainB (c : Int) : Bool := clsOf c == 0 && c != 35 && decide (33 ≤ c) && decide (c ≤ 126)
theorem plain_eq {k : Nat} (hk : 2 ≤ k) (c : Int) (h0 : 0 ≤ c) (h1 : c ≤ 255) : lex_plain.f k c = some (isPlainB c) := by
  unfold lex_plain.f
  have e : wrap64 c = c := by unfold wrap64; omega
  rw [e, class_eq hk]
  simp only [Option.bind_some, isPlainB]
  by_cases h2 : clsOf c = 0
  · by_cases h3 : c = 35
    · subst h3; simp [h2]
    · by_cases h4 : 33 ≤ c
      · have h4' : c ≥ 33 := h4
        simp [h2, h3, h4']
      · simp [h2, h3, h4]
  · simp [h2]
/-- A hex digit's value. -/
def hexVal (c : Int) : Option Int := if 48 ≤ c ∧ c ≤ 57 then some (c - 48) else if 65 ≤ c ∧ c ≤ 70 then some (c - 55) else if 97 ≤ c ∧ c ≤ 102 then some (c - 87) else none
theorem digit_eq {k : Nat} (hk : 1 ≤ k) (c : Int) (h0 : 0 ≤ c) (h1 : c ≤ 255) : hex_Digit.f k c = some ((hexVal c).getD 0, (hexVal c).isSome) := by
  have : ∀ n : Fin 256, hex_Digit.f 1 (n.val : Int) = some ((hexVal n.val).getD 0, (hexVal n.val).isSome) := by decide +kernel
  have h := this ⟨c.toNat, by omega⟩
  have e : ((c.toNat : Nat) : Int) = c := by omega
  simp only [e] at h
  exact le_rounds (g := fun k => hex_Digit.f k c) (fun k => hex_Digit.mono c k) h hk
/-- A text is a sign or none, and digits. -/
def unsign (l : List UInt8) : List UInt8 := match l with
  | [] => []
  | c :: r => if c == 43 || c == 45 then r else c :: r
def wholeB (l : List UInt8) : Bool := !(unsign l).isEmpty && (unsign l).all isDigB
theorem trim_ten (a : ByteArray) (ha : a.size ≤ 9223372036854775807) : strings_Trim.f a ⟨#[48, 49, 50, 51, 52, 53, 54, 55, 56, 57]⟩ = some ⟨(Lib.trimS a.data.toList tenDigits).toArray⟩ := by
  unfold strings_Trim.f
  rw [if_pos ha, if_pos (by decide), if_pos (by decide)]
  rfl
theorem trim_test (a : ByteArray) : ((⟨(Lib.trimS a.data.toList tenDigits).toArray⟩ : ByteArray).toList == ([] : List UInt8)) = a.data.toList.all isDigB := by
  rw [toList_data]
  rw [Bool.eq_iff_iff, beq_iff_eq]
  exact trim_nil _
theorem whole_eq (a : ByteArray) (ha : a.size ≤ 9223372036854775807) : lex_whole.f a = some (wholeB a.data.toList) := by
  unfold lex_whole.f wholeB
  have hs : a.size = a.data.toList.length := rfl
  rw [toList_data]
  match hl : a.data.toList with
  | [] => simp [unsign]
  | c :: r =>
    rw [if_neg (by simp), if_pos (by rw [hs, hl]; simp)]
    have hb : bt a 0 = (c.toNat : Int) := by
      have := bt_get a 0 (by rw [hs, hl]; simp)
      simpa [hl] using this
    have hx : a.extract 1 a.size = ⟨r.toArray⟩ := by rw [ext_from, hl]; rfl
    have hxs : (⟨r.toArray⟩ : ByteArray).size ≤ 9223372036854775807 := by
      show r.toArray.size ≤ _
      rw [hs, hl] at ha
      simp at ha ⊢; omega
    have hxl : (⟨r.toArray⟩ : ByteArray).data.toList = r := by simp
    have h1 : (1 : Int) ≤ (a.size : Int) := by rw [hs, hl]; simp; omega
    rw [hb, hx, toList_data, hxl]
    have t1 := trim_ten ⟨r.toArray⟩ hxs
    have t2 := trim_ten a ha
    have u1 := trim_test ⟨r.toArray⟩
    have u2 := trim_test a
    rw [hxl] at u1
    rw [t1, t2]
    simp only [Option.bind_some]
    by_cases e1 : c = 43
    · subst e1
      rw [if_pos (by rfl), if_pos h1]
      cases r with
      | nil => rfl
      | cons x y => rw [if_neg (by simp), u1]; simp [unsign]
    · have n1 : ¬ (c.toNat : Int) = 43 := by
        intro h; apply e1; exact UInt8.toNat_inj.1 (by simpa using (show c.toNat = 43 by omega))
      rw [if_neg n1]
      by_cases e2 : c = 45
      · subst e2
        rw [if_pos (by rfl), if_pos h1]
        cases r with
        | nil => rfl
        | cons x y => rw [if_neg (by simp), u1]; simp [unsign]
      · have n2 : ¬ (c.toNat : Int) = 45 := by
          intro h; apply e2; exact UInt8.toNat_inj.1 (by simpa using (show c.toNat = 45 by omega))
        rw [if_neg n2, u2, hl]
        simp [unsign, e1, e2]
end Go.Proofs.YtfdikkdbmlcjiaaGreatDoor.M
end
section
namespace Go.Proofs.YtfdikkdbmlcjiaaGreatDoor.M
open Go.RowKit Go.Proofs.YtfdikkdbmlcjiaaGreatDoorW.PrintWords
set_option linter.unusedVariables false
/-- A byte of a name, written. -/
def writeOf (c : UInt8) : List UInt8 := if isPlainB c.toNat then [c] else 35 :: hexOf c.toNat
def writeBytes (l : List UInt8) : List UInt8 := l.flatMap writeOf
def lex_Write.f (a0 : ByteArray) : Option ByteArray := if a0.size * 3 ≤ 140737488355328 then some ⟨(writeBytes a0.data.toList).toArray⟩ else none
theorem writeOf_length (c : UInt8) : 1 ≤ (writeOf c).length ∧ (writeOf c).length ≤ 3 := by
  unfold writeOf; split <;> simp [hexOf]
theorem writeBytes_length (l : List UInt8) : l.length ≤ (writeBytes l).length ∧ (writeBytes l).length ≤ 3 * l.length := by
  induction l with
  | nil => simp [writeBytes]
  | cons c l ih =>
    have := writeOf_length c
    simp only [writeBytes, List.flatMap_cons, List.length_append, List.length_cons] at ih ⊢
    omega
theorem writeBytes_snoc (s : ByteArray) (i : Nat) (h : i < s.size) : writeBytes (s.data.toList.take (i + 1)) = writeBytes (s.data.toList.take i) ++ writeOf s[i] := by
  unfold writeBytes
  rw [List.take_succ_eq_append_getElem (by simpa using h), List.flatMap_append]
  simp
  rfl
set_option maxHeartbeats 4000000 in
set_option maxRecDepth 1000000 in
theorem lex_Write.calls (a0 : ByteArray) (r : ByteArray) (w : World) (h : lex_Write.f a0 = some r) :
    Calls Tryz.prog 25 #[.string a0] w fun e w' => e = .returned (.string r) ∧ Below w.heap.size w w' := by
  unfold lex_Write.f at h
  split at h
  case isFalse => cases h
  rename_i hl
  obtain rfl := Option.some.inj h
  clear h
  go_enter Tryz.func25, Tryz.ntmps25
  go_wp2
  go_loopw [7] (fun i wr => ∃ k : Nat, k ≤ a0.size ∧ i = .int .i64 k ∧ IsBd w.heap.size w.heap.size (writeBytes (a0.data.toList.take k)) wr ∧ Below w.heap.size w wr) (fun i wr => a0.size - (intOf i).toNat)
  case atStart => 
    refine ⟨0, Nat.zero_le _, rfl, (Lib.IsBuilderF.of (Lib.fresh_isBuilder _ _ w)), (Below.refl _ w).alloc (Nat.le_refl _) _⟩
  case round =>
    obtain ⟨k, hk, rfl, hI, hbw⟩ := hrel
    by_cases hlt : k < a0.size
    · have hlen := writeBytes_length (a0.data.toList.take k)
      rw [List.length_take, Array.length_toList] at hlen
      have hsz : min k a0.data.size = k := by have : a0.data.size = a0.size := rfl; omega
      rw [hsz] at hlen
      clear hsz
      have HS := Aside0.mk (writeBytes_snoc a0 k hlt)
      have h256 := (a0[k]).toNat_lt
      have hc := plain_eq (Nat.le_refl 2) (a0[k].toNat : Int) (by omega) (by omega)
      by_cases hp : isPlainB (a0[k].toNat : Int) = true
      · rw [hp] at hc
        have HP := Aside0.mk hp
        have HC := Aside0.mk hc
        clear hp hc
        go_wp2_with (go_at_call 46; refine (lex_plain.calls 2 _ true _ HC.out).mono ?_)
        rintro e W1 ⟨rfl, b1⟩
        replace hI := hI.below b1
        replace hbw := below_then hbw hbw.size b1
        clear b1
        go_wp2_with (go_at_call 39; refine (WriteByte_k w.heap.size w.heap.size _ _ _ hI ?_ ?_).mono ?_)
        · rw [Lib.byteCells_length]; omega
        · exact hbw.size
        rintro e W2 ⟨rfl, h2, b2, k2⟩
        go_wp2
        go_roundw
        case rel =>
          refine ⟨k + 1, by omega, by go_num, ?_, hbw.trans b2⟩
          rw [HS.out, IsBd, Lib.byteCells_append]
          have e : writeOf a0[k] = [a0[k]] := by unfold writeOf; rw [if_pos HP.out]
          rw [e]
          exact .inr h2
        case measure => simp [intOf]; omega
      · have hp' : isPlainB (a0[k].toNat : Int) = false := by simpa using hp
        rw [hp'] at hc
        have HP := Aside0.mk hp'
        have HC := Aside0.mk hc
        clear hp hp' hc
        have hx : hex_Hex.f [(a0[k].toNat : Int)] = some ⟨(hexBytes [(a0[k].toNat : Int)]).toArray⟩ := by
          unfold hex_Hex.f
          rw [if_pos (by simp [isByte]; omega), if_pos (by simp)]
        have HX := Aside0.mk hx
        clear hx
        go_wp2_with (go_at_call 46; refine (lex_plain.calls 2 _ false _ HC.out).mono ?_)
        rintro e W1 ⟨rfl, b1⟩
        replace hI := hI.below b1
        replace hbw := below_then hbw hbw.size b1
        clear b1
        go_wp2_with (go_at_call 39; refine (WriteByte_k w.heap.size w.heap.size _ _ _ hI ?_ ?_).mono ?_)
        · rw [Lib.byteCells_length]; omega
        · exact hbw.size
        rintro e W2 ⟨rfl, h2, b2, k2⟩
        replace hbw := hbw.trans b2
        have hI2 : IsBd w.heap.size w.heap.size (writeBytes (List.take k a0.data.toList) ++ [35]) W2 := by
          rw [IsBd, Lib.byteCells_append]; exact .inr h2
        have hr : Kd.C (Kd.int .u8) (W2.alloc (.cells #[.int .u8 (a0[k].toNat : Int)] 5)) (some ⟨W2.heap.size, 0, none⟩) 1 [(a0[k].toNat : Int)] := reads_one _ _ _ _
        clear hI b2 k2 h2
        go_wp2_with (go_at_call 26; refine (hex_Hex.calls _ 1 [(a0[k].toNat : Int)] _ _ hr (Nat.le_refl 1) HX.out).mono ?_)
        clear hr
        rintro e W3 ⟨rfl, b3⟩
        have hI3 := (IsBd.alloc hI2 (.cells #[.int .u8 (a0[k].toNat : Int)] 5)).below b3
        have hb3 : Below w.heap.size w W3 := below_then (below_alloc hbw _) (below_alloc hbw _).size b3
        clear hI2 b3 hbw
        have hxs : (ByteArray.mk (hexBytes [(a0[k].toNat : Int)]).toArray).size = 2 := by
          show (hexBytes [(a0[k].toNat : Int)]).toArray.size = 2
          rw [List.size_toArray, hexBytes_length]; rfl
        have HXS := Aside0.mk hxs
        clear hxs
        go_wp2_with (go_at_call 30; refine (WriteString_k w.heap.size w.heap.size _ _ _ hI3 ?_ ?_).mono ?_)
        · rw [Lib.byteCells_length, HXS.out, List.length_append, List.length_singleton]; omega
        · exact hb3.size
        rintro e W4 ⟨rfl, h4, b4, k4⟩
        go_wp2
        go_roundw
        case rel =>
          refine ⟨k + 1, by omega, by go_num, ?_, hb3.trans b4⟩
          rw [HS.out, IsBd]
          have e : writeOf a0[k] = 35 :: hexOf a0[k].toNat := by unfold writeOf; rw [HP.out]; rfl
          have e2 : Lib.byteCells (writeBytes (List.take k a0.data.toList) ++ writeOf a0[k]) = Lib.byteCells (writeBytes (List.take k a0.data.toList) ++ [35]) ++ Lib.strCells ⟨(hexBytes [(a0[k].toNat : Int)]).toArray⟩ := by
            rw [e, Lib.byteCells_append, Lib.byteCells_append, List.append_assoc]
            simp [Lib.byteCells, Lib.strCells, hexBytes]
          rw [e2]
          exact .inr h4
        case measure => simp [intOf]; omega
    · go_wp2_with (go_at_call 31; refine (Tryz.Builder_String_any_k w.heap.size w.heap.size _ _ hI hbw.size).mono ?_)
      rintro e W1 ⟨rfl, _, b1, _⟩
      go_wp2
      go_ret
      rw [List.take_of_length_le (by simp; omega)]
      exact ⟨rfl, hbw.trans b1⟩
end Go.Proofs.YtfdikkdbmlcjiaaGreatDoor.M
end
section
namespace Go.Proofs.YtfdikkdbmlcjiaaGreatDoor.M
open Go.RowKit Go.Proofs.YtfdikkdbmlcjiaaGreatDoorW.PrintWords
set_option linter.unusedVariables false
/-- An append leaves the row where it was, or lays a new one. -/
theorem append_where {P : Program} (w : World) (base : Nat) (t ty e : TypeId) (i : TypeInfo) (z : Value) (bytes : Nat) (ht : P.underlying t = some (.slice e)) (hi : P.info? e = some i) (hz : i.zero = some z)
    (hsize : i.size = 1) (hby : i.bytes = bytes) (hzs : z.cells.size = 1) (v : Value) (n : Nat) (xs : List Value) (hown : w.ownsRowF base e 1 v n xs)
    (a : Addr) (m c : Nat) (news : List Value) (hl : news.length = m * 1) (hnews : ∀ j u, news[j]? = some u → w.cell? (a.add j) = some u) (h1 : ∀ u ∈ news, u.oneCell' = true)
    (h63 : n + m ≤ maxLen) (hbytes : (n + m) * bytes ≤ 140737488355328) (hm : 0 < m) {v' : Value} {w' : World} (hrun : (Builtin.append_ #[t, t] ty #[v, .slice (some a) m c]).run P w = .ok v' w') :
    v'.ownBlock = v.ownBlock ∨ ∃ g, v'.ownBlock = some g ∧ w.heap.size ≤ g := by
  rcases hown.2 with ⟨rfl, rfl⟩ | ⟨g, cap, cur, fz, rfl, hbg, hg, hfz, hnc, hcm, hcs, htake⟩
  · obtain ⟨v2, w2, r1, r2, r3, r4⟩ := run_append_own (P := P) w w.heap.size t ty e i z 1 bytes ht hi hz hsize hby hzs (by decide) (.slice none 0 0) 0 xs ⟨hown.1, .inl ⟨rfl, rfl⟩⟩ a m c news hl hnews h1 h63 hbytes (Nat.le_refl _)
    rw [hrun] at r1
    injection r1 with e1 e2
    subst e1
    cases hb : v'.ownBlock with
    | none => exact .inl rfl
    | some k => exact .inr ⟨k, rfl, own_base r2 k hb⟩
  · have hsmall : n + m ≤ 9223372036854775807 := by simp only [maxLen] at h63; omega
    by_cases hroom : n + m ≤ cap
    · have hr := run_append_roomF (P := P) w t ty e i ht hi g n cap cur fz hg (by rw [hsize]; exact hfz) a m c news (by rw [hsize]; exact hl) hnews h1 hroom (by rw [hsize]; rw [hcs]; omega)
      rw [hrun] at hr
      injection hr with e1 e2
      subst e1
      exact .inl rfl
    · have holds : ∀ j u, xs[j]? = some u → w.cell? ((⟨g, 0, none⟩ : Addr).add j) = some u := hown.cells (g := g) rfl
      have hr := run_append_grow (P := P) w t ty e i z ht hi hz ⟨g, 0, none⟩ n cap xs (by rw [hsize]; exact hown.1) holds a m c news (by rw [hsize]; exact hl) hnews (by omega) (by omega) (growslice_fits (by omega) (by rw [hby]; exact hbytes))
      rw [hrun] at hr
      injection hr with e1 e2
      subst e1
      exact .inr ⟨w.heap.size, rfl, Nat.le_refl _⟩
/-- The builder's row lies in another block than L. -/
def BdFar (L b : Nat) (w : World) : Prop := ∃ v, w.cell? ⟨b, 1, none⟩ = some v ∧ v.ownBlock ≠ some L
theorem copyCheck_far (B b : Nat) (bs : List Value) (w : World) (h : Lib.IsBuilderF 57 5 B b bs w) :
    Calls Tryz.prog 47 #[.pointer (some ⟨b, 0, none⟩)] w fun e w' => e = .returned (.tuple #[]) ∧ Lib.BuilderAtF 57 5 B b (.pointer (some ⟨b, 0, none⟩)) bs w' ∧ Below B w w' ∧ w'.heap.size = w.heap.size ∧ (∀ k, k ≠ b → w'.heap[k]? = w.heap[k]?) ∧ w'.cell? ⟨b, 1, none⟩ = w.cell? ⟨b, 1, none⟩ := by
  rcases h with h | h
  · obtain ⟨hB, v, hbk, hown, hne⟩ := id h
    refine (copyCheck_fresh b w h.cell0 h.shape h.frozen0).mono ?_
    rintro e w' ⟨rfl, rfl⟩
    refine ⟨rfl, h.used _, (Below.refl B w).setCell (p := ⟨b, 0, none⟩) h.1 _, by simp, fun k hk => Below.heap_setCell w _ _ k hk, ?_⟩
    have e1 : (w.setCell ⟨b, 0, none⟩ (.pointer (some ⟨b, 0, none⟩))).heap[b]? = some (.cells #[.pointer (some ⟨b, 0, none⟩), v] 57 (0, 0)) := by
      have := heap_setCell_same w b 0 _ 57 (.pointer (some ⟨b, 0, none⟩)) hbk
      simpa using this
    rw [Lib.cell_of_heap e1, Lib.cell_of_heap hbk]
    rfl
  · refine (copyCheck_used b w h.cell0).mono ?_
    rintro e w' ⟨rfl, rfl⟩
    exact ⟨rfl, h, Below.refl B _, rfl, fun k _ => rfl, rfl⟩
set_option maxHeartbeats 2000000 in
set_option maxRecDepth 100000 in
theorem WriteByte_far (B b : Nat) (bs : List Value) (c : Int) (w : World) (L : Nat) (hL : L < w.heap.size) (hLb : L ≠ b) (hfar : BdFar L b w) (h : Lib.IsBuilderF 57 5 B b bs w) (hlen : bs.length + 1 ≤ 140737488355328) (hBw : B ≤ w.heap.size) :
    Calls Tryz.prog 39 #[.pointer (some ⟨b, 0, none⟩), .int .u8 c] w fun e w' => e = .returned .nilIface ∧ (Lib.BuilderAtF 57 5 B b (.pointer (some ⟨b, 0, none⟩)) (bs ++ [.int .u8 c]) w' ∧ Below B w w' ∧ w'.heap[L]? = w.heap[L]? ∧ BdFar L b w' ∧ w.heap.size ≤ w'.heap.size) := by
  obtain ⟨i0, hi, hz0, hz1, hz2⟩ := info_parts bd_byte
  obtain ⟨vf, hvf, hvL⟩ := hfar
  have HVF := Aside0.mk hvf
  clear hvf
  go_enter Tryz.func39, Tryz.ntmps39
  go_wp2_with (go_at_call 47; refine (copyCheck_far B b bs _ h).mono ?_)
  rintro e w1 ⟨rfl, h1, hb1, hs1, hk1, hv1⟩
  obtain ⟨hB, v, hbk, hown, hne⟩ := h1
  have c0 : w1.cell? ⟨b, 0, none⟩ = some (.pointer (some ⟨b, 0, none⟩)) := by rw [Lib.cell_of_heap hbk]; rfl
  have c1 : w1.cell? ⟨b, 1, none⟩ = some v := by rw [Lib.cell_of_heap hbk]; rfl
  have hvv : v.ownBlock ≠ some L := by
    have e1 := hv1.symm.trans c1
    rw [HVF.out] at e1
    injection e1 with e1
    subst e1
    exact hvL
  have HK1 := Aside0.mk hk1
  have HS1 := Aside0.mk hs1
  clear hk1 hv1 hs1
  have hnew1 : ∀ (j : Nat) (u : Value), [Value.int .u8 c][j]? = some u → (w1.alloc (.cells #[.int .u8 c] 5)).cell? ((⟨w1.heap.size, 0, none⟩ : Addr).add j) = some u := by
    intro j u hj
    match j, hj with
    | 0, hj => simp at hj; subst hj; simp [Addr.add]
  obtain ⟨v', w2, hrun, hown', hgrow, -⟩ := run_append_ownF (P := Tryz.prog) (w1.alloc (.cells #[.int .u8 c] 5)) B 35 35 5 i0 (.int .u8 0) 1 1 Tryz.underlying35 hi hz0 hz1 hz2 rfl (by decide) v bs.length bs (hown.alloc _) ⟨w1.heap.size, 0, none⟩ 1 1 [.int .u8 c] rfl hnew1 (by intro u hu; simp at hu; subst hu; rfl) (by unfold maxLen; omega) (by omega) (by have := hb1.size; simp; omega)
  have hwhere := append_where (P := Tryz.prog) (w1.alloc (.cells #[.int .u8 c] 5)) B 35 35 5 i0 (.int .u8 0) 1 Tryz.underlying35 hi hz0 hz1 hz2 rfl v bs.length bs (hown.alloc _) ⟨w1.heap.size, 0, none⟩ 1 1 [.int .u8 c] rfl hnew1 (by intro u hu; simp at hu; subst hu; rfl) (by unfold maxLen; omega) (by omega) (by decide) hrun
  have HRUN := Aside0.mk hrun
  have HWH := Aside0.mk hwhere
  clear hnew1 hrun hwhere
  have hlt : b < w1.heap.size := by
    rcases Nat.lt_or_ge b w1.heap.size with h' | h'
    · exact h'
    · simp [Array.getElem?_eq_none h'] at hbk
  have hb2 : w2.heap[b]? = some (.cells #[.pointer (some ⟨b, 0, none⟩), v] 57 (0, 0)) := by
    rw [hgrow.block b (by simp; omega) (fun e => hne e.symm), Lib.alloc_old w1 _ b hlt]
    exact hbk
  have hL1 : L < w1.heap.size := by rw [HS1.out]; exact hL
  have hL2 : w2.heap[L]? = w.heap[L]? := by
    rw [hgrow.block L (by simp; omega) (fun e => hvv e.symm), Lib.alloc_old w1 _ L hL1, HK1.out L hLb]
  have d0 : w2.cell? ⟨b, 0, none⟩ = some (.pointer (some ⟨b, 0, none⟩)) := by rw [Lib.cell_of_heap hb2]; rfl
  have d1 : w2.cell? ⟨b, 1, none⟩ = some v := by rw [Lib.cell_of_heap hb2]; rfl
  have f1 : w2.frozen? ⟨b, 1, none⟩ = false := Lib.frozen_of_heap hb2 1
  obtain ⟨g, cap, rfl⟩ : ∃ g cap, v' = .slice (some ⟨g, 0, none⟩) (bs.length + 1) cap := by
    rcases hown'.2 with ⟨_, h0⟩ | ⟨g, cap, cur, fz, hv, _⟩
    · omega
    · exact ⟨g, cap, hv⟩
  go_wp2_with (at_builtin; refine Lib.wpList_append_run _ rfl _ _ _ _ rfl _ _ rfl rfl _ _ HRUN.out ?_)
  go_ret
  have hL3 : (w2.setCell ⟨b, 1, none⟩ (.slice (some ⟨g, 0, none⟩) (bs.length + 1) cap)).heap[L]? = w.heap[L]? := by rw [Below.heap_setCell w2 _ _ L hLb, hL2]
  refine ⟨rfl, ?_, ?_, hL3, ⟨.slice (some ⟨g, 0, none⟩) (bs.length + 1) cap, World.cell?_setCell_same' _ _ _ (by rw [d1]; rfl), ?_⟩, ?_⟩
  · exact Lib.BuilderAtF.put (T := 57) (e := 5) hB hb2 (bs' := bs ++ [.int .u8 c]) (by simpa using hown') (by decide)
  · exact ((hb1.alloc (by have := hb1.size; omega) _).grown hgrow (by have := hb1.size; simp; omega) (fun k hk => (hown.lt k hk).1)).setCell (p := ⟨b, 1, none⟩) hB _
  · rcases HWH.out with e1 | ⟨k, e1, e2⟩
    · rw [e1]; exact hvv
    · rw [e1]
      intro e3
      injection e3 with e3
      simp at e2
      omega
  · have := hgrow.size
    have := hb1.size
    simp at *
    omega
end Go.Proofs.YtfdikkdbmlcjiaaGreatDoor.M
end
section
namespace Go.Proofs.YtfdikkdbmlcjiaaGreatDoor.M
open Go.RowKit Go.Proofs.YtfdikkdbmlcjiaaGreatDoorW.PrintWords
set_option linter.unusedVariables false
set_option linter.unusedSimpArgs false
def plainQ (c : UInt8) : Bool := c != 40 && c != 41 && c != 92 && decide (32 ≤ c.toNat) && decide (c.toNat ≤ 126)
def oct3 (c : UInt8) : List UInt8 := [(48 + c.toNat / 64 % 8).toUInt8, (48 + c.toNat / 8 % 8).toUInt8, (48 + c.toNat % 8).toUInt8]
def quoteOf (c : UInt8) : List UInt8 := if plainQ c = true then [c] else 92 :: oct3 c
def quoteBytes (l : List UInt8) : List UInt8 := l.flatMap quoteOf
def tok_quoted.f (a0 : ByteArray) : Option ByteArray := if a0.size * 4 ≤ 140737488355328 then some ⟨(quoteBytes a0.data.toList).toArray⟩ else none
theorem quoteOf_length (c : UInt8) : 1 ≤ (quoteOf c).length ∧ (quoteOf c).length ≤ 4 := by
  unfold quoteOf; split <;> simp [oct3]
theorem quoteBytes_length (l : List UInt8) : l.length ≤ (quoteBytes l).length ∧ (quoteBytes l).length ≤ 4 * l.length := by
  induction l with
  | nil => simp [quoteBytes]
  | cons c l ih =>
    have := quoteOf_length c
    simp only [quoteBytes, List.flatMap_cons, List.length_append, List.length_cons] at ih ⊢
    omega
theorem quoteBytes_snoc (s : ByteArray) (i : Nat) (h : i < s.size) : quoteBytes (s.data.toList.take (i + 1)) = quoteBytes (s.data.toList.take i) ++ quoteOf s[i] := by
  unfold quoteBytes
  rw [List.take_succ_eq_append_getElem (by simpa using h), List.flatMap_append]
  simp
  rfl
theorem bdfar_fresh {B b : Nat} {p : Value} {bs : List Value} {w : World} (o : Obj) (h : Lib.BuilderAtF 57 5 B b p bs w) : BdFar w.heap.size b (w.alloc o) ∧ b < w.heap.size := by
  obtain ⟨hB, v, hbk, hown, hne⟩ := h
  have hlt : b < w.heap.size := by
    rcases Nat.lt_or_ge b w.heap.size with h' | h'
    · exact h'
    · simp [Array.getElem?_eq_none h'] at hbk
  refine ⟨⟨v, ?_, fun e => ?_⟩, hlt⟩
  · have : (w.alloc o).heap[b]? = some (.cells #[p, v] 57 (0, 0)) := by rw [Lib.alloc_old w _ b hlt]; exact hbk
    rw [Lib.cell_of_heap this]; rfl
  · have := (hown.lt _ e).2
    omega
theorem oct_take (c : UInt8) (j : Nat) : ((oct3 c).take j).length ≤ j := List.length_take_le _ _
theorem oct_all (c : UInt8) : (oct3 c).take 3 = oct3 c := rfl
theorem oct_dig (n : Nat) (h : n < 8) : (((48 + n).toUInt8).toNat : Int) = 48 + (n : Int) := by
  have : ((48 + n).toUInt8).toNat = 48 + n := by
    show (UInt8.ofNat (48 + n)).toNat = _
    rw [UInt8.toNat_ofNat']
    omega
  omega
theorem oct_step0 (p : List UInt8) (c : UInt8) : Lib.byteCells (p ++ (oct3 c).take 0) ++ [.int .u8 (48 + (c.toNat : Int) / 64 % 8)] = Lib.byteCells (p ++ (oct3 c).take 1) := by
  have e := oct_dig (c.toNat / 64 % 8) (by omega)
  have e2 : (48 : Int) + (c.toNat : Int) / 64 % 8 = 48 + ((c.toNat / 64 % 8 : Nat) : Int) := by omega
  rw [e2, ← e]
  simp [oct3, Lib.byteCells]
theorem oct_step1 (p : List UInt8) (c : UInt8) : Lib.byteCells (p ++ (oct3 c).take 1) ++ [.int .u8 (48 + (c.toNat : Int) / 8 % 8)] = Lib.byteCells (p ++ (oct3 c).take 2) := by
  have e := oct_dig (c.toNat / 8 % 8) (by omega)
  have e2 : (48 : Int) + (c.toNat : Int) / 8 % 8 = 48 + ((c.toNat / 8 % 8 : Nat) : Int) := by omega
  rw [e2, ← e]
  simp [oct3, Lib.byteCells]
theorem oct_step2 (p : List UInt8) (c : UInt8) : Lib.byteCells (p ++ (oct3 c).take 2) ++ [.int .u8 (48 + (c.toNat : Int) % 8)] = Lib.byteCells (p ++ (oct3 c).take 3) := by
  have e := oct_dig (c.toNat % 8) (by omega)
  have e2 : (48 : Int) + (c.toNat : Int) % 8 = 48 + ((c.toNat % 8 : Nat) : Int) := by omega
  rw [e2, ← e]
  simp [oct3, Lib.byteCells]
def octRow : Array Value := #[.int .u8 64, .int .u8 8, .int .u8 1]
theorem oct_cells {w : World} {L : Nat} (h : w.heap[L]? = some (.cells octRow 5 (0, 0))) : w.cell? ⟨L, 0, none⟩ = some (.int .u8 64) ∧ w.cell? ⟨L, 1, none⟩ = some (.int .u8 8) ∧ w.cell? ⟨L, 2, none⟩ = some (.int .u8 1) := by
  simp [World.cell?, h, octRow]
set_option maxHeartbeats 4000000 in
set_option maxRecDepth 1000000 in
theorem tok_quoted.calls (a0 : ByteArray) (r : ByteArray) (w : World) (h : tok_quoted.f a0 = some r) :
    Calls Tryz.prog 27 #[.string a0] w fun e w' => e = .returned (.string r) ∧ Below w.heap.size w w' := by
  unfold tok_quoted.f at h
  split at h
  case isFalse => cases h
  rename_i hl
  obtain rfl := Option.some.inj h
  clear h
  go_enter Tryz.func27, Tryz.ntmps27
  go_wp2
  go_loopw [10] (fun i wr => ∃ k : Nat, k ≤ a0.size ∧ i = .int .i64 k ∧ IsBd w.heap.size w.heap.size (quoteBytes (a0.data.toList.take k)) wr ∧ Below w.heap.size w wr) (fun i wr => a0.size - (intOf i).toNat)
  case atStart =>
    refine ⟨0, Nat.zero_le _, rfl, (Lib.IsBuilderF.of (Lib.fresh_isBuilder _ _ w)), (Below.refl _ w).alloc (Nat.le_refl _) _⟩
  case round =>
    obtain ⟨k, hk, rfl, hI, hbw⟩ := hrel
    by_cases hlt : k < a0.size
    · have hlen := quoteBytes_length (a0.data.toList.take k)
      rw [List.length_take, Array.length_toList] at hlen
      have hsz : min k a0.data.size = k := by have : a0.data.size = a0.size := rfl; omega
      rw [hsz] at hlen
      clear hsz
      have HS := Aside0.mk (quoteBytes_snoc a0 k hlt)
      have h256 := (a0[k]).toNat_lt
      by_cases hp : plainQ a0[k] = true
      · have hq : quoteOf a0[k] = [a0[k]] := by unfold quoteOf; rw [if_pos hp]
        simp only [plainQ, Bool.and_eq_true, bne_iff_ne, decide_eq_true_eq] at hp
        obtain ⟨⟨⟨⟨q1, q2⟩, q3⟩, q4⟩, q5⟩ := hp
        have n1 : ((a0[k].toNat : Int) != 40) = true := by rw [bne_iff_ne]; intro e; apply q1; apply UInt8.toNat_inj.1; show a0[k].toNat = 40; omega
        have n2 : ((a0[k].toNat : Int) != 41) = true := by rw [bne_iff_ne]; intro e; apply q2; apply UInt8.toNat_inj.1; show a0[k].toNat = 41; omega
        have n3 : ((a0[k].toNat : Int) != 92) = true := by rw [bne_iff_ne]; intro e; apply q3; apply UInt8.toNat_inj.1; show a0[k].toNat = 92; omega
        have n4 : decide ((32 : Int) ≤ (a0[k].toNat : Int)) = true := decide_eq_true (by omega)
        have n5 : decide ((a0[k].toNat : Int) ≤ 126) = true := decide_eq_true (by omega)
        have HQ := Aside0.mk hq
        clear hq q1 q2 q3 q4 q5
        go_wp2_with (go_at_call 39; refine (WriteByte_k w.heap.size w.heap.size _ _ _ hI ?_ ?_).mono ?_)
        · rw [Lib.byteCells_length]; omega
        · exact hbw.size
        rintro e W2 ⟨rfl, h2, b2, k2⟩
        go_wp2
        go_roundw
        case rel =>
          refine ⟨k + 1, by omega, by go_num, ?_, hbw.trans b2⟩
          rw [HS.out, IsBd, Lib.byteCells_append, HQ.out]
          exact .inr h2
        case measure => simp [intOf]; omega
      · have hq : quoteOf a0[k] = 92 :: oct3 a0[k] := by unfold quoteOf; rw [if_neg hp]
        have HQ := Aside0.mk hq
        have hcase : (((a0[k].toNat : Int) != 40) = false) ∨ (((a0[k].toNat : Int) != 40) = true ∧ ((a0[k].toNat : Int) != 41) = false) ∨ (((a0[k].toNat : Int) != 40) = true ∧ ((a0[k].toNat : Int) != 41) = true ∧ ((a0[k].toNat : Int) != 92) = false) ∨
            (((a0[k].toNat : Int) != 40) = true ∧ ((a0[k].toNat : Int) != 41) = true ∧ ((a0[k].toNat : Int) != 92) = true ∧ decide ((32 : Int) ≤ (a0[k].toNat : Int)) = false) ∨
            (((a0[k].toNat : Int) != 40) = true ∧ ((a0[k].toNat : Int) != 41) = true ∧ ((a0[k].toNat : Int) != 92) = true ∧ decide ((32 : Int) ≤ (a0[k].toNat : Int)) = true ∧ decide ((a0[k].toNat : Int) ≤ 126) = false) := by
          have hp2 : ¬ ((a0[k].toNat : Int) ≠ 40 ∧ (a0[k].toNat : Int) ≠ 41 ∧ (a0[k].toNat : Int) ≠ 92 ∧ (32 : Int) ≤ (a0[k].toNat : Int) ∧ (a0[k].toNat : Int) ≤ 126) := by
            rintro ⟨e1, e2, e3, e4, e5⟩
            apply hp
            simp only [plainQ, Bool.and_eq_true, bne_iff_ne, decide_eq_true_eq]
            refine ⟨⟨⟨⟨?_, ?_⟩, ?_⟩, by omega⟩, by omega⟩
            · intro e; rw [e] at e1; exact e1 rfl
            · intro e; rw [e] at e2; exact e2 rfl
            · intro e; rw [e] at e3; exact e3 rfl
          simp only [bne_eq_false_iff_eq, bne_iff_ne, decide_eq_false_iff_not, decide_eq_true_eq]
          omega
        clear hq hp
        rcases hcase with n1 | ⟨n1, n2⟩ | ⟨n1, n2, n3⟩ | ⟨n1, n2, n3, n4⟩ | ⟨n1, n2, n3, n4, n5⟩ <;> (
          go_wp2_with (go_at_call 39; refine (WriteByte_k w.heap.size w.heap.size _ _ _ hI ?_ ?_).mono ?_)
          case refine_1 => rw [Lib.byteCells_length]; omega
          case refine_2 => exact hbw.size
          rintro e W1 ⟨rfl, h1, b1, -⟩
          obtain ⟨hfar, hbl⟩ := bdfar_fresh (.cells octRow 5) h1
          have HI1 : Aside0 (IsBd w.heap.size w.heap.size (quoteBytes (List.take k a0.data.toList) ++ [92]) W1) := ⟨by rw [IsBd, Lib.byteCells_append]; exact .inr h1⟩
          have HFAR := Aside0.mk hfar
          have HB1 := Aside0.mk (hbw.trans b1)
          clear h1 b1 hfar hI hbw
          go_wp2
          have hL0 : (W1.alloc (.cells octRow 5)).heap[W1.heap.size]? = some (.cells octRow 5 (0, 0)) := by show (W1.heap.push _)[W1.heap.size]? = _; rw [Array.getElem?_push_size]
          have HL0 := Aside0.mk hL0
          clear hL0
          go_loopw [39] (fun i wr => ∃ j : Nat, j ≤ 3 ∧ i = .int .i64 j ∧ W1.heap.size < wr.heap.size ∧ Aside0 (IsBd w.heap.size w.heap.size (quoteBytes (List.take k a0.data.toList) ++ [92] ++ (oct3 a0[k]).take j) wr) ∧ Aside0 (Below w.heap.size w wr) ∧ Aside0 (wr.heap[W1.heap.size]? = some (.cells octRow 5 (0, 0))) ∧ Aside0 (BdFar W1.heap.size w.heap.size wr)) (fun i wr => 3 - (intOf i).toNat)
          case atStart =>
            exact ⟨0, by omega, rfl, by simp, ⟨by rw [List.take_zero, List.append_nil]; exact IsBd.alloc HI1.out _⟩, ⟨below_alloc HB1.out _⟩, HL0, HFAR⟩
          case round =>
            obtain ⟨j, hj, rfl, hsz, HI, HB, HL, HF⟩ := hrel
            by_cases hj3 : j < 3
            · obtain ⟨k0, k1, k2⟩ := oct_cells HL.out
              have hj' : j = 0 ∨ j = 1 ∨ j = 2 := by omega
              rcases hj' with rfl | rfl | rfl
              · go_wp2_with (go_at_call 39; refine (WriteByte_far w.heap.size w.heap.size _ _ _ W1.heap.size hsz (by omega) HF.out HI.out ?_ ?_).mono ?_)
                case refine_1 => rw [Lib.byteCells_length, List.length_append, List.length_append, List.length_singleton]; have := oct_take a0[k] 0; omega
                case refine_2 => exact HB.out.size
                rintro e W2 ⟨rfl, h2, b2, l2, f2, s2⟩
                rw [oct_step0] at h2
                have HI2 := Aside0.mk h2
                have HL2 := Aside0.mk (l2.trans HL.out)
                have HB2 := Aside0.mk (HB.out.trans b2)
                have HF2 := Aside0.mk f2
                clear h2 l2 b2 f2
                go_wp2
                go_roundw
                case rel => exact ⟨1, by omega, by go_num, by omega, ⟨.inr HI2.out⟩, HB2, HL2, HF2⟩
                case measure => simp [intOf]
              · go_wp2_with (go_at_call 39; refine (WriteByte_far w.heap.size w.heap.size _ _ _ W1.heap.size hsz (by omega) HF.out HI.out ?_ ?_).mono ?_)
                case refine_1 => rw [Lib.byteCells_length, List.length_append, List.length_append, List.length_singleton]; have := oct_take a0[k] 1; omega
                case refine_2 => exact HB.out.size
                rintro e W2 ⟨rfl, h2, b2, l2, f2, s2⟩
                rw [oct_step1] at h2
                have HI2 := Aside0.mk h2
                have HL2 := Aside0.mk (l2.trans HL.out)
                have HB2 := Aside0.mk (HB.out.trans b2)
                have HF2 := Aside0.mk f2
                clear h2 l2 b2 f2
                go_wp2
                go_roundw
                case rel => exact ⟨2, by omega, by go_num, by omega, ⟨.inr HI2.out⟩, HB2, HL2, HF2⟩
                case measure => simp [intOf]
              · go_wp2_with (go_at_call 39; refine (WriteByte_far w.heap.size w.heap.size _ _ _ W1.heap.size hsz (by omega) HF.out HI.out ?_ ?_).mono ?_)
                case refine_1 => rw [Lib.byteCells_length, List.length_append, List.length_append, List.length_singleton]; have := oct_take a0[k] 2; omega
                case refine_2 => exact HB.out.size
                rintro e W2 ⟨rfl, h2, b2, l2, f2, s2⟩
                rw [oct_step2] at h2
                have HI2 := Aside0.mk h2
                have HL2 := Aside0.mk (l2.trans HL.out)
                have HB2 := Aside0.mk (HB.out.trans b2)
                have HF2 := Aside0.mk f2
                clear h2 l2 b2 f2
                go_wp2
                go_roundw
                case rel => exact ⟨3, by omega, by go_num, by omega, ⟨.inr HI2.out⟩, HB2, HL2, HF2⟩
                case measure => simp [intOf]
            · have hj' : j = 3 := by omega
              subst hj'
              go_wp2
              go_roundw
              case rel =>
                refine ⟨k + 1, by omega, by go_num, ?_, HB.out⟩
                rw [HS.out, HQ.out]
                have e := HI.out
                rw [oct_all, List.append_assoc] at e
                exact e
              case measure => simp [intOf]; omega)
    · go_wp2_with (go_at_call 31; refine (Tryz.Builder_String_any_k w.heap.size w.heap.size _ _ hI hbw.size).mono ?_)
      rintro e W1 ⟨rfl, _, b1, _⟩
      go_wp2
      go_ret
      rw [List.take_of_length_le (by simp; omega)]
      exact ⟨rfl, hbw.trans b1⟩
end Go.Proofs.YtfdikkdbmlcjiaaGreatDoor.M
end
section
namespace Go.Proofs.YtfdikkdbmlcjiaaGreatDoor.M
open Go.RowKit Go.Maps Go.Proofs.YtfdikkdbmlcjiaaGreatDoorW.PrintWords Go.Proofs.YtfdikkdbmlcjiaaGreatDoorW.PrintLast
set_option linter.unusedVariables false
set_option linter.unusedSimpArgs false
def signText (k : Int) : List UInt8 := if k = 6 then [91] else if k = 7 then [93] else if k = 8 then [60, 60] else if k = 9 then [62, 62] else if k = 10 then [123] else if k = 11 then [125] else []
def tok_Show.f (a0 a1 a2 : Int) (a3 : ByteArray) : Option ByteArray :=
  if a0 = 1 then strconv_Itoa.f a2
  else if a0 = 2 then (lex_Write.f a3).bind fun r => some ((⟨#[47]⟩ : ByteArray) ++ r)
  else if a0 = 3 then some a3
  else if a0 = 4 then (hex_Hex.f (bytesOf a3)).bind fun r => some ((⟨#[60]⟩ : ByteArray) ++ r ++ (⟨#[62]⟩ : ByteArray))
  else if a0 = 5 then (tok_quoted.f a3).bind fun r => some ((⟨#[40]⟩ : ByteArray) ++ r ++ (⟨#[41]⟩ : ByteArray))
  else if (Lit.int .i64 a0).wf = true then some ⟨(signText a0).toArray⟩ else none
theorem signText_at (k : Int) : signMap.atKey (.int .i64 k) (.lit (.string [])) = .lit (.string (signText k)) := by
  unfold signText
  by_cases h6 : k = 6
  · subst h6; rfl
  by_cases h7 : k = 7
  · subst h7; rfl
  by_cases h8 : k = 8
  · subst h8; rfl
  by_cases h9 : k = 9
  · subst h9; rfl
  by_cases h10 : k = 10
  · subst h10; rfl
  by_cases h11 : k = 11
  · subst h11; rfl
  rw [if_neg h6, if_neg h7, if_neg h8, if_neg h9, if_neg h10, if_neg h11]
  have hs : ∀ (x : Int) (s : List UInt8), ¬ k = x → (signRow x s).1.sameKey (.int .i64 k) = false := by
    intro x s hx
    show decide (IntKind.i64 = IntKind.i64 ∧ x = k) = false
    rw [decide_eq_false_iff_not]
    exact fun e => hx e.2.symm
  unfold signMap DataW.atKey
  simp only [List.find?, hs 6 _ h6, hs 7 _ h7, hs 8 _ h8, hs 9 _ h9, hs 10 _ h10, hs 11 _ h11]
set_option maxRecDepth 100000 in
theorem signs_at {k : Int} {b : Nat} {w : World} (hw : (Lit.int .i64 k).wf = true) (hown : w.ownsMap (H := Unit) Tryz.prog 3 (plainElem Tryz.prog 9) b 6 signMap) :
    (Instr.lookup 53 (.map (some b)) (.int .i64 k) false).run Tryz.prog w = .ok (.string ⟨(signText k).toArray⟩) w := by
  obtain ⟨v, ps, hrun, hR⟩ := hown.lookup key3 Tryz.underlying53 (z := .string ⟨#[]⟩) (Tryz.zeroValue9 w) (zd := .lit (.string [])) (zp := []) (plainElem_string Tryz.underlying9 (Nat.zero_le _)) (keyOf_int_mk Tryz.underlying3 hw)
  obtain ⟨s, rfl, hz, -⟩ := plainElem_string_inv Tryz.underlying9 hR
  have e := congrArg Prod.fst hz
  have e2 := signText_at k
  simp only [e2, DataW.lit.injEq, Lit.string.injEq] at e
  rw [hrun, e]
theorem write_size {a t : ByteArray} (h : lex_Write.f a = some t) : t.size ≤ 140737488355328 := by
  unfold lex_Write.f at h
  split at h
  case isFalse => cases h
  obtain rfl := Option.some.inj h
  have := writeBytes_length a.data.toList
  rw [← size_list] at this
  rw [size_list]
  simp only [List.toList_toArray]
  omega
theorem quoted_size {a t : ByteArray} (h : tok_quoted.f a = some t) : t.size ≤ 140737488355328 := by
  unfold tok_quoted.f at h
  split at h
  case isFalse => cases h
  obtain rfl := Option.some.inj h
  have := quoteBytes_length a.data.toList
  rw [← size_list] at this
  rw [size_list]
  simp only [List.toList_toArray]
  omega
theorem hexed_size {a t : ByteArray} (h : hex_Hex.f (bytesOf a) = some t) : t.size ≤ 140737488355328 ∧ a.size ≤ 140737488355328 := by
  unfold hex_Hex.f at h
  split at h
  case isFalse => cases h
  split at h
  case isFalse => cases h
  obtain rfl := Option.some.inj h
  have e := hexBytes_length (bytesOf a)
  have e2 := bytesOf_length a
  rw [size_list]
  simp only [List.toList_toArray]
  omega
set_option maxHeartbeats 4000000 in
set_option maxRecDepth 1000000 in
theorem tok_Show.calls (a0 : Int) (a1 : Int) (a2 : Int) (a3 : ByteArray) (r : ByteArray) (w : World) (hG : GW w) (h : tok_Show.f a0 a1 a2 a3 = some r) :
    Calls Tryz.prog 14 #[.agg #[.int .i64 a0, .int .i64 a1, .int .i64 a2, .string a3]] w fun e w' => e = .returned (.string r) ∧ Below w.heap.size w w' := by
  have HG := Aside0.mk hG
  clear hG
  unfold tok_Show.f at h
  by_cases k1 : a0 = 1
  · subst k1
    rw [if_pos rfl] at h
    have H := Aside0.mk h
    clear h
    go_enter Tryz.func14, Tryz.ntmps14
    go_wp2_with fail
    with_reducible refine (strconv_Itoa.calls a2 r _ (HG.out.alloc _) H.out).mono ?_
    rintro e W1 ⟨rfl, hb⟩
    have HB : Aside0 (Below w.heap.size w W1) := ⟨below_step (below_alloc (Below.refl _ w) _) hb⟩
    clear hb
    go_wp2
    go_ret
    exact ⟨rfl, HB.out⟩
  rw [if_neg k1] at h
  have b1 : (a0 == 1) = false := beq_eq_false_iff_ne.2 k1
  by_cases k2 : a0 = 2
  · subst k2
    rw [if_pos rfl] at h
    obtain ⟨t, ht, h⟩ := Option.bind_eq_some_iff.1 h
    obtain rfl := Option.some.inj h
    have H := Aside0.mk ht
    have hts := write_size ht
    clear ht h
    go_enter Tryz.func14, Tryz.ntmps14
    go_wp2_with fail
    with_reducible refine (lex_Write.calls a3 t _ H.out).mono ?_
    rintro e W1 ⟨rfl, hb⟩
    have HB : Aside0 (Below w.heap.size w W1) := ⟨below_step (below_alloc (Below.refl _ w) _) hb⟩
    clear hb
    go_wp2
    go_ret
    exact ⟨rfl, HB.out⟩
  rw [if_neg k2] at h
  have b2 : (a0 == 2) = false := beq_eq_false_iff_ne.2 k2
  by_cases k3 : a0 = 3
  · subst k3
    rw [if_pos rfl] at h
    obtain rfl := Option.some.inj h
    go_enter Tryz.func14, Tryz.ntmps14
    go_wp2
    go_ret
    exact ⟨rfl, below_alloc (Below.refl _ w) _⟩
  rw [if_neg k3] at h
  have b3 : (a0 == 3) = false := beq_eq_false_iff_ne.2 k3
  by_cases k4 : a0 = 4
  · subst k4
    rw [if_pos rfl] at h
    obtain ⟨t, ht, h⟩ := Option.bind_eq_some_iff.1 h
    obtain rfl := Option.some.inj h
    have H := Aside0.mk ht
    obtain ⟨hts, hss⟩ := hexed_size ht
    have hcv := Lib.run_convert_string_bytes (P := Tryz.prog) (w.alloc (.cells #[.int .i64 4, .int .i64 a1, .int .i64 a2, .string a3] 31)) 9 35 5 a3 (u := .string) Tryz.underlying9 Tryz.underlying35 Tryz.underlying5
    clear ht h
    go_enter Tryz.func14, Tryz.ntmps14
    go_wp2_with fail
    have hrd := bytes_reads (w.alloc (.cells #[.int .i64 4, .int .i64 a1, .int .i64 a2, .string a3] 31)) 5 a3 (by omega)
    have HRD := Aside0.mk (Kd.C_of_reads (h1 := fun _ => rfl) hrd)
    clear hrd
    have hsz : (w.alloc (.cells #[.int .i64 4, .int .i64 a1, .int .i64 a2, .string a3] 31)).heap.size = w.heap.size + 1 := Array.size_push ..
    obtain ⟨V, hV⟩ : ∃ V, V = w.alloc (.cells #[.int .i64 4, .int .i64 a1, .int .i64 a2, .string a3] 31) := ⟨_, rfl⟩
    have hBV : Below w.heap.size w V := by rw [hV]; exact below_alloc (Below.refl _ w) _
    have hr := HRD.out
    rw [← hV] at hr hsz ⊢
    have hBW : Below w.heap.size w (Lib.bytesWorld V 5 a3) := bytes_below hBV (by omega) 5 a3
    have hx := hex_Hex.calls (some ⟨w.heap.size + 1, 0, none⟩) (grownCap V a3.size 0 5) (bytesOf a3) t (Lib.bytesWorld V 5 a3) (by rw [bytesOf_length, ← hsz]; exact hr) (by rw [bytesOf_length]; exact grownCap_ge _ _ _ _) H.out
    rw [bytesOf_length] at hx
    refine hx.mono ?_
    rintro e W1 ⟨rfl, hb⟩
    have HB : Aside0 (Below w.heap.size w W1) := ⟨below_step hBW hb⟩
    clear hb hx hr hBW hBV
    go_wp2
    go_ret
    exact ⟨rfl, HB.out⟩
  rw [if_neg k4] at h
  have b4 : (a0 == 4) = false := beq_eq_false_iff_ne.2 k4
  by_cases k5 : a0 = 5
  · subst k5
    rw [if_pos rfl] at h
    obtain ⟨t, ht, h⟩ := Option.bind_eq_some_iff.1 h
    obtain rfl := Option.some.inj h
    have H := Aside0.mk ht
    have hts := quoted_size ht
    clear ht h
    go_enter Tryz.func14, Tryz.ntmps14
    go_wp2_with fail
    with_reducible refine (tok_quoted.calls a3 t _ H.out).mono ?_
    rintro e W1 ⟨rfl, hb⟩
    have HB : Aside0 (Below w.heap.size w W1) := ⟨below_step (below_alloc (Below.refl _ w) _) hb⟩
    clear hb
    go_wp2
    go_ret
    exact ⟨rfl, HB.out⟩
  rw [if_neg k5] at h
  have b5 : (a0 == 5) = false := beq_eq_false_iff_ne.2 k5
  split at h
  case isFalse => cases h
  rename_i hwf
  obtain rfl := Option.some.inj h
  clear h k1 k2 k3 k4 k5
  have HW := Aside0.mk hwf
  clear hwf
  go_enter Tryz.func14, Tryz.ntmps14
  have c0 : (w.alloc (.cells #[.int .i64 a0, .int .i64 a1, .int .i64 a2, .string a3] 31)).cell? ⟨w.heap.size, 0, none⟩ = some (.int .i64 a0) := by rw [World.cell?_alloc_new]; rfl
  go_wp2
  go_region_with (go_at_call 28; refine (signs_calls _).mono ?_; rintro e W1 ⟨b, rfl, hbb, hown, hb⟩; have hlk := signs_at HW.out hown; have k0 := (hb.cell (p := ⟨w.heap.size, 0, none⟩) (by show w.heap.size < (w.heap.push _).size; rw [Array.size_push]; omega)).trans c0; have HBB : Aside0 (Below w.heap.size w W1) := ⟨below_step (below_drew1 (below_alloc (Below.refl _ w) _)) hb⟩)
  all_goals (go_wp2; go_ret; exact ⟨rfl, HBB.out⟩)
end Go.Proofs.YtfdikkdbmlcjiaaGreatDoor.M
end
section
namespace Go.Proofs.YtfdikkdbmlcjiaaGreatDoor.M
open Go.RowKit Go.Proofs.YtfdikkdbmlcjiaaGreatDoorW.PrintWords
set_option linter.unusedVariables false
theorem strings_read {w : World} {A : Option Addr} {n : Nat} {xs : List ByteArray} (h : Kd.C Kd.string w A n xs) (h0 : 0 < n) :
    ∃ b o, A = some ⟨b, o, none⟩ ∧ b < w.heap.size ∧ ∀ (j : Nat) x, xs[j]? = some x → w.cell? ⟨b, o + j, none⟩ = some (.string x) := by
  obtain ⟨ad, e, hc⟩ := Kd.at_string h 0 (Int.le_refl _) (by omega)
  obtain ⟨b, o, sp⟩ := ad
  have hsp : sp = none := by
    cases sp with
    | none => rfl
    | some s =>
      exfalso
      unfold World.cell? at hc
      simp only [Addr.add] at hc
      split at hc
      · simp at hc
      · cases hc
  subst hsp
  refine ⟨b, o, e, World.block_lt_of_cell? w _ hc, ?_⟩
  intro j x hx
  have hl : xs.length = n := h.1
  have hj : j < xs.length := by
    rcases Nat.lt_or_ge j xs.length with h' | h'
    · exact h'
    · rw [List.getElem?_eq_none h'] at hx; cases hx
  obtain ⟨ad', e', hc'⟩ := Kd.at_string h (j : Int) (by omega) (by omega)
  have ea : ad' = ⟨b, o, none⟩ := Option.some.inj (e'.symm.trans e)
  subst ea
  have ex : rdOf ByteArray.empty xs (j : Int) = x := by
    unfold rdOf
    rw [Int.toNat_natCast, List.getD_eq_getElem?_getD, hx]; rfl
  rw [ex] at hc'
  by_cases e0 : j = 0
  · subst e0; simpa [Addr.add] using hc'
  · simpa [Addr.add, e0] using hc'
end Go.Proofs.YtfdikkdbmlcjiaaGreatDoor.M
end
section
namespace Go.Proofs.YtfdikkdbmlcjiaaGreatDoor.M
open Go.RowKit Go.Proofs.YtfdikkdbmlcjiaaGreatDoorW.PrintWords
set_option linter.unusedVariables false
def joinB (l : List ByteArray) (sep : ByteArray) : List UInt8 := Lib.join (l.map (·.data.toList)) sep.data.toList
def strings_Join.f (l0 : List ByteArray) (a1 : ByteArray) : Option ByteArray := if l0.length ≤ 140737488355328 ∧ (joinB l0 a1).length ≤ 140737488355328 then some ⟨(joinB l0 a1).toArray⟩ else none
theorem strings_Join.calls (A0 : Option Addr) (c0 : Nat) (l0 : List ByteArray) (a1 : ByteArray) (r : ByteArray) (w : World) (hr0 : Kd.C Kd.string w A0 l0.length l0) (hc0 : l0.length ≤ c0) (h : strings_Join.f l0 a1 = some r) :
    Calls Tryz.prog 15 #[.slice A0 l0.length c0, .string a1] w fun e w' => e = .returned (.string r) ∧ Below w.heap.size w w' := by
  unfold strings_Join.f at h
  split at h
  case isFalse => cases h
  rename_i hb
  obtain rfl := Option.some.inj h
  by_cases h0 : l0 = []
  · subst h0
    refine (Tryz.strings_Join_none A0 c0 a1 w).mono ?_
    rintro e w' ⟨rfl, rfl⟩
    exact ⟨rfl, Below.refl _ _⟩
  · obtain ⟨b, o, rfl, hbk, hcell⟩ := strings_read hr0 (List.length_pos_iff.2 h0)
    refine (Tryz.strings_Join b o c0 l0 a1 w hcell hbk hb.1 hc0 hb.2).mono ?_
    rintro e w' ⟨rfl, hbw⟩
    exact ⟨rfl, hbw⟩
end Go.Proofs.YtfdikkdbmlcjiaaGreatDoor.M
end
section
/- Laid by this session's program hbprint.py out of the translation: the function hornbook/tok.Text and its contract. -/
namespace Go.Proofs.YtfdikkdbmlcjiaaGreatDoor.M
open Go.RowKit Go.Proofs.YtfdikkdbmlcjiaaGreatDoorW.PrintWords Go.Proofs.YtfdikkdbmlcjiaaGreatDoorW.PrintLast Go.Proofs.YtfdikkdbmlcjiaaGreatDoorW.PrintMore
attribute [local go_sem] max2_int min2_int max_two min_two max_three min_three max_four min_four
set_option linter.unusedVariables false
set_option linter.unusedSimpArgs false
def tok_Text.l0 : Nat → List ByteArray → List (S31) → Int → Int → Option (ByteArray)
  | 0, _, _, _, _ => none
  | k + 1, x3, x6, x7, x8 => if x8 < x7 then (if 0 ≤ x8 then (if x8 < (x6.length : Int) then ((tok_Show.f ((rd_T31 x6 x8).f0) ((rd_T31 x6 x8).f1) ((rd_T31 x6 x8).f2) ((rd_T31 x6 x8).f3)).bind fun t189 => (if x3.length < 8796093022208 then (tok_Text.l0 k (x3 ++ [t189]) x6 x7 (wrap64 (x8 + 1))) else (none))) else (none)) else (none)) else ((strings_Join.f x3 (⟨#[32]⟩ : ByteArray)).bind fun t193 => (some t193))
def tok_Text.f (k : Nat) (l0 : List (S31)) : Option (ByteArray) := tok_Text.l0 k ([] : List ByteArray) l0 (l0.length : Int) 0
theorem tok_Text.mono_l : ∀ k, (∀ y0 y1 y2 y3, LeO (tok_Text.l0 k y0 y1 y2 y3) (tok_Text.l0 (k + 1) y0 y1 y2 y3))
  | 0 => fun _ _ _ _ r h => by simp [tok_Text.l0] at h
  | k + 1 => by
    have ih0 := tok_Text.mono_l k
    · intro y0 y1 y2 y3
      unfold tok_Text.l0
      repeat' first
      | (with_reducible exact ih0 _ _ _ _)
      | (with_reducible exact LeO.refl _)
      | (with_reducible exact LeO.none _)
      | (with_reducible refine LeO.ite ?_ ?_)
      | (with_reducible refine LeO.bind ?_ (fun _ => ?_))
      | exact ih0 _ _ _ _
      | exact LeO.none _
      | refine LeO.ite ?_ ?_
      | refine LeO.bind ?_ (fun _ => ?_)
theorem tok_Text.mono : ∀ a0 k, LeO (tok_Text.f k a0) (tok_Text.f (k + 1) a0) := by
  intro a0 k
  have ih0 := tok_Text.mono_l k
  unfold tok_Text.f
  repeat' first
      | (with_reducible exact ih0 _ _ _ _)
      | (with_reducible exact LeO.refl _)
      | (with_reducible exact LeO.none _)
      | (with_reducible refine LeO.ite ?_ ?_)
      | (with_reducible refine LeO.bind ?_ (fun _ => ?_))
      | exact ih0 _ _ _ _
      | exact LeO.none _
      | refine LeO.ite ?_ ?_
      | refine LeO.bind ?_ (fun _ => ?_)
set_option maxHeartbeats 8000000 in
set_option maxRecDepth 100000 in
theorem tok_Text.calls (k : Nat) (A0 : Option Addr) (c0 : Nat) (l0 : List (S31)) (r : ByteArray) (w : World) (hG : GW w) (hr0 : Kd.C k31 w A0 l0.length l0) (hc0 : l0.length ≤ c0) (h : tok_Text.f k l0 = some r) :
    Calls Tryz.prog 10 #[.slice A0 l0.length c0] w fun e w' => e = .returned (.string r) ∧ Below w.heap.size w w' := by
  have hu31 := Tryz.underlying31
  have HR0 := Aside0.mk hr0
  have HC0 := Aside0.mk hc0
  clear hr0 hc0
  have HG := Aside0.mk hG
  clear hG
  have HB := Aside0.mk (Below.refl w.heap.size w)
  have H : (tok_Text.l0 k ([] : List ByteArray) l0 (l0.length : Int) 0) = some r := h
  clear h
  have H' := Aside0.mk H
  clear H
  go_enter Tryz.func10, Tryz.ntmps10
  go_wp2
  go_loopg [3, 8] k (fun kq v3 v8 w' => ∃ (x3_1 : List ByteArray) (x8_1 : Int), v8 = .int .i64 x8_1 ∧ Aside0 (tok_Text.l0 kq x3_1 l0 (l0.length : Int) x8_1 = some r) ∧ Aside0 (kq ≤ k) ∧ Aside0 (Kd.R Kd.string 9 w' w.heap.size (fun _ => True) v3 x3_1) ∧ Aside0 (Below w.heap.size w w'))
  case atStart => exact ⟨(([] : List ByteArray)), (0), (by first | rfl | (simp; done) | (simp [*]; done)), H', ⟨Nat.le_refl _⟩, ⟨by first | exact Kd.R_nil _ _ _ _ _ | exact Kd.N_nil _ _ _ _ _ | exact Kd.V_nil _ _ _ _ _ | exact Kd.Q_nil _ _ _ _ _ | exact Kd.S_nil _ _ _ _ _⟩, ⟨by repeat (first | (with_reducible first | exact HB.out | apply below_alloc | apply pw_below_drewN | apply below_drew1) | exact HB.out)⟩⟩
  case round =>
    clear H'
    try clear c1
    obtain ⟨x3_1, x8_1, rfl, HA, HK1, HO_3, HB⟩ := hrel
    cases gk with
    | zero => exact absurd HA.out (by simp [tok_Text.l0])
    | succ k1 =>
      have H := HA.out
      clear HA
      simp only [tok_Text.l0] at H
      by_cases c2 : x8_1 < (l0.length : Int)
      · rw [if_pos c2] at H
        have c2b0 : decide (x8_1 < (l0.length : Int)) = true := decide_eq_true c2
        clear c2
        by_cases c3 : 0 ≤ x8_1
        · rw [if_pos c3] at H
          have c3b0 : decide (0 ≤ x8_1) = true := decide_eq_true c3
          clear c3
          by_cases c4 : x8_1 < (l0.length : Int)
          · rw [if_pos c4] at H
            have c4b0 : decide (x8_1 < (l0.length : Int)) = true := decide_eq_true c4
            clear c4
            replace H := Option.bind_eq_some_iff.mp H
            obtain ⟨t189, A50, H⟩ := H
            replace H : (if x3_1.length < 8796093022208 then (tok_Text.l0 k1 (x3_1 ++ [t189]) l0 (l0.length : Int) (wrap64 (x8_1 + 1))) else (none)) = some r := H
            have A5 := Aside0.mk A50
            clear A50
            by_cases c6 : x3_1.length < 8796093022208
            · rw [if_pos c6] at H
              have LMc6 := Aside0.mk c6
              clear c6
              obtain ⟨y190, hy190⟩ : ∃ y_ : List ByteArray, y_ = (x3_1 ++ [t189]) := ⟨_, rfl⟩
              replace H : (tok_Text.l0 k1 y190 l0 (l0.length : Int) (wrap64 (x8_1 + 1))) = some r := by first | (rw [hy190]; with_reducible exact H) | (have H2_ := (Option.bind_some _ _).symm.trans H; rw [hy190]; with_reducible exact H2_) | (have H2_ := (Option.bind_some _ _).symm.trans H; with_reducible exact H2_) | with_reducible exact H | (rw [hy190]; exact H) | exact H
              have Ny190 := Aside0.mk hy190
              clear hy190
              have H' := Aside0.mk H
              clear H
              have p187 : 0 ≤ (x8_1 : Int) := of_decide_eq_true (by first | (with_reducible assumption) | assumption)
              have q187 : x8_1 < (l0.length : Int) := of_decide_eq_true (by first | (with_reducible assumption) | assumption)
              obtain ⟨ad187, e187, hx187_0, hx187_1, hx187_2, hx187_3⟩ := at_T31 HR0.out x8_1 p187 q187
              cases e187
              replace hx187_0 := (HB.out.cell (World.block_lt_of_cell? w _ hx187_0)).trans hx187_0
              replace hx187_1 := (HB.out.cell (World.block_lt_of_cell? w _ hx187_1)).trans hx187_1
              replace hx187_2 := (HB.out.cell (World.block_lt_of_cell? w _ hx187_2)).trans hx187_2
              replace hx187_3 := (HB.out.cell (World.block_lt_of_cell? w _ hx187_3)).trans hx187_3
              replace p187 := eq_true p187
              replace q187 := eq_true q187
              go_wp2_with (first | ((with_reducible refine gate_dst (N := 5) rfl ?_); refine box_event ?hg (N := 5) ?hd (cs := #[.int .i64 0, .int .i64 0, .int .i64 0, .string (⟨#[]⟩ : ByteArray)]) (t := 31) ?hr ?_; (case hd => rfl); (case hg => rfl); (case hr => first | (go_simp; done) | (go_simp; rfl)); intro gb188 hg w7 hbox hb; have n0_ := Aside0.mk (Kd.R_below (by (with_reducible repeat (first | apply Kd.R_alloc | apply Kd.R_drewN | apply Kd.R_drew)); exact HO_3.out) hb); have n1_ := Aside0.mk (below_step (by repeat (first | (with_reducible first | exact HB.out | apply below_alloc | apply pw_below_drewN | apply below_drew1) | exact HB.out)) hb); have n2_ := Aside0.mk (hbox); have n3_ := Aside0.mk ((by rw [hg]; exact (below_size (by repeat (first | (with_reducible first | exact HB.out | apply below_alloc | apply pw_below_drewN | apply below_drew1) | exact HB.out))) : w.heap.size ≤ gb188)); have n4_ := Aside0.mk ((by rw [hg]; exact (below_size (by repeat (first | (with_reducible first | exact HB.out | apply below_alloc | apply pw_below_drewN | apply below_drew1) | exact HB.out))) : w.heap.size ≤ gb188)); clear HO_3; clear HB; have HO_3 := n0_; have HB := n1_; have BK188 := n2_; have GW188 := n3_; have GE188 := n4_; clear n0_ n1_ n2_ n3_ n4_; clear hb hbox hg; have hcz8_0 : w7.cell? ⟨gb188, 0, none⟩ = some (.int .i64 0) := (blk_cell BK188.out 0).trans rfl; have hcz8_1 : w7.cell? ⟨gb188, 1, none⟩ = some (.int .i64 0) := (blk_cell BK188.out 1).trans rfl; have hcz8_2 : w7.cell? ⟨gb188, 2, none⟩ = some (.int .i64 0) := (blk_cell BK188.out 2).trans rfl; have hcz8_3 : w7.cell? ⟨gb188, 3, none⟩ = some (.string (⟨#[]⟩ : ByteArray)) := (blk_cell BK188.out 3).trans rfl; have hfz8_0 := blk_frozen BK188.out 0; have hfz8_1 := blk_frozen BK188.out 1; have hfz8_2 := blk_frozen BK188.out 2; have hfz8_3 := blk_frozen BK188.out 3) | ((with_reducible refine gate_callee (f := 14) rfl ?_); refine goesL_ (some 14) rfl rfl Tryz.func14 (by kernel_rfl) rfl #[.agg #[.int .i64 ((rd_T31 l0 x8_1).f0), .int .i64 ((rd_T31 l0 x8_1).f1), .int .i64 ((rd_T31 l0 x8_1).f2), .string ((rd_T31 l0 x8_1).f3)]] rfl (by (try simp only [List.map_toArray, List.map_cons, List.map_nil]); first | done | rfl | (simp only [List.length_drop, List.length_take]; rfl)) ?_; (with_reducible refine (tok_Show.calls ((rd_T31 l0 x8_1).f0) ((rd_T31 l0 x8_1).f1) ((rd_T31 l0 x8_1).f2) ((rd_T31 l0 x8_1).f3) t189 _ ?side1 A5.out).mono ?_); (case side1 => exact GW.below (by repeat (first | (with_reducible first | exact HB.out | apply below_alloc | apply pw_below_drewN | apply below_drew1 | refine below_set ?_ GE188.out) | exact HB.out)) HG.out); rintro e w9 ⟨rfl, hb⟩; refine ⟨_, rfl, ?_⟩; have n0_ := Aside0.mk (Kd.R_below (by (with_reducible repeat (first | apply Kd.R_alloc | apply Kd.R_drewN | apply Kd.R_drew)); exact (Kd.R_mono (Kd.R_far (p := ⟨gb188, 3, none⟩) (Kd.R_far (p := ⟨gb188, 2, none⟩) (Kd.R_far (p := ⟨gb188, 1, none⟩) (Kd.R_far (p := ⟨gb188, 0, none⟩) (Kd.R_types HO_3.out BK188.out (by decide)) (fun _ hk => hk.2) (.int .i64 ((rd_T31 l0 x8_1).f0))) (fun _ hk => hk.2) (.int .i64 ((rd_T31 l0 x8_1).f1))) (fun _ hk => hk.2) (.int .i64 ((rd_T31 l0 x8_1).f2))) (fun _ hk => hk.2) (.string ((rd_T31 l0 x8_1).f3))) (fun _ h_ => h_.1))) hb); have n1_ := Aside0.mk (blk_below (g := gb188) (o := .cells #[.int .i64 ((rd_T31 l0 x8_1).f0), .int .i64 ((rd_T31 l0 x8_1).f1), .int .i64 ((rd_T31 l0 x8_1).f2), .string ((rd_T31 l0 x8_1).f3)] 31 (0, 0)) (by (with_reducible repeat (first | refine blk_drewN ?_ _ | refine blk_drew ?_ | refine blk_alloc ?_ _)); refine blk_put (cs := #[.int .i64 ((rd_T31 l0 x8_1).f0), .int .i64 ((rd_T31 l0 x8_1).f1), .int .i64 ((rd_T31 l0 x8_1).f2), .string (⟨#[]⟩ : ByteArray)]) ?_ 3 _ rfl; (with_reducible repeat (first | refine blk_drewN ?_ _ | refine blk_drew ?_ | refine blk_alloc ?_ _)); refine blk_put (cs := #[.int .i64 ((rd_T31 l0 x8_1).f0), .int .i64 ((rd_T31 l0 x8_1).f1), .int .i64 0, .string (⟨#[]⟩ : ByteArray)]) ?_ 2 _ rfl; (with_reducible repeat (first | refine blk_drewN ?_ _ | refine blk_drew ?_ | refine blk_alloc ?_ _)); refine blk_put (cs := #[.int .i64 ((rd_T31 l0 x8_1).f0), .int .i64 0, .int .i64 0, .string (⟨#[]⟩ : ByteArray)]) ?_ 1 _ rfl; (with_reducible repeat (first | refine blk_drewN ?_ _ | refine blk_drew ?_ | refine blk_alloc ?_ _)); refine blk_put (cs := #[.int .i64 0, .int .i64 0, .int .i64 0, .string (⟨#[]⟩ : ByteArray)]) ?_ 0 _ rfl; (with_reducible repeat (first | refine blk_drewN ?_ _ | refine blk_drew ?_ | refine blk_alloc ?_ _)); exact BK188.out) hb); have n2_ := Aside0.mk (below_step (by repeat (first | (with_reducible first | exact HB.out | apply below_alloc | apply pw_below_drewN | apply below_drew1 | refine below_set ?_ GE188.out) | exact HB.out)) hb); clear HO_3; clear BK188; clear HB; have HO_3 := n0_; have BK188 := n1_; have HB := n2_; clear n0_ n1_ n2_; (try clear hb); (try clear hb2); (try clear hk); (try clear hi)) | ((with_reducible refine gate_builtin (b := .append) (xs := #[.tmp 12, .tmp 15]) rfl ?_); at_builtin; refine Kd.R_append Kd.string (w0 := w) w.heap.size rfl (.tmp 12) (.tmp 15) 40 9 (.string ⟨#[]⟩) 16 rfl Tryz.underlying40 info9 rfl (by decide) (by omega) u3 x3_1 t189 [.string t189] (fun _ => True) (fun _ => False) rfl rfl ?aP (fun _ hk => hk.elim) ?aF ?aO ?aB ?aS ?aL ?_; (case aP => exact rfl); (case aB => exact (by repeat (first | (with_reducible first | exact HB.out | apply below_alloc | apply pw_below_drewN | apply below_drew1 | refine below_set ?_ GE188.out) | exact HB.out))); (case aF => exact (fun _ _ => trivial)); (case aO => exact (by (with_reducible repeat (first | apply Kd.R_alloc | apply Kd.R_drewN | apply Kd.R_drew)); exact HO_3.out)); (case aS => exact (below_size (by repeat (first | (with_reducible first | exact HB.out | apply below_alloc | apply pw_below_drewN | apply below_drew1 | refine below_set ?_ GE188.out) | exact HB.out)))); (case aL => have := LMc6.out; omega); intro v191 w10 ho hb hg hat; rw [← Ny190.out] at ho; have n0_ := Aside0.mk (blk_grown (g := gb188) (o := .cells #[.int .i64 ((rd_T31 l0 x8_1).f0), .int .i64 ((rd_T31 l0 x8_1).f1), .int .i64 ((rd_T31 l0 x8_1).f2), .string ((rd_T31 l0 x8_1).f3)] 31 (0, 0)) (by (with_reducible repeat (first | refine blk_drewN ?_ _ | refine blk_drew ?_ | refine blk_alloc ?_ _)); exact BK188.out) hg (Kd.R_ne HO_3.out BK188.out (by decide))); have n1_ := Aside0.mk (hb); have n2_ := Aside0.mk (ho); clear BK188; clear HB; clear HO_3; have BK188 := n0_; have HB := n1_; have HO192 := n2_; clear n0_ n1_ n2_; clear ho hb hg hat))
              go_roundg k1
              case measure => have := HK1.out; omega
              case rel => exact ⟨(y190), (wrap64 (x8_1 + 1)), (by first | rfl | (simp; done) | (simp [*]; done)), H', ⟨by have := HK1.out; omega⟩, ⟨by (with_reducible repeat (first | apply Kd.R_alloc | apply Kd.R_drewN | apply Kd.R_drew)); exact HO192.out⟩, ⟨by repeat (first | (with_reducible first | exact HB.out | apply below_alloc | apply pw_below_drewN | apply below_drew1 | refine below_set ?_ GE188.out) | exact HB.out)⟩⟩
            · rw [if_neg c6] at H
              exact absurd H (by simp)
          · rw [if_neg c4] at H
            exact absurd H (by simp)
        · rw [if_neg c3] at H
          exact absurd H (by simp)
      · rw [if_neg c2] at H
        have c2b0 : decide (x8_1 < (l0.length : Int)) = false := decide_eq_false c2
        clear c2
        replace H := Option.bind_eq_some_iff.mp H
        obtain ⟨t193, A110, H⟩ := H
        replace H : (some t193) = some r := H
        have A11 := Aside0.mk A110
        clear A110
        obtain rfl := Option.some.inj H
        obtain ⟨Ao12, co12, eo12⟩ := Kd.R_slice HO_3.out
        subst eo12
        go_wp2_with (first | ((with_reducible refine gate_callee (f := 15) rfl ?_); refine goesL_ (some 19) rfl rfl Tryz.func15 (by kernel_rfl) rfl #[.slice Ao12 x3_1.length co12, .string (⟨#[32]⟩ : ByteArray)] rfl (by (try simp only [List.map_toArray, List.map_cons, List.map_nil]); first | done | rfl | (simp only [List.length_drop, List.length_take]; rfl)) ?_; (with_reducible refine (strings_Join.calls _ _ x3_1 (⟨#[32]⟩ : ByteArray) t193 _ ?side1 ?side2 A11.out).mono ?_); (case side1 => repeat (first | exact (Kd.R_reads' HO_3.out).2.2 | (with_reducible refine Kd.C_alloc ?_ _) | (with_reducible refine Kd.C_drewN ?_ _) | (with_reducible refine Kd.C_drew ?_))); (case side2 => exact (Kd.R_reads' HO_3.out).2.1); rintro e w13 ⟨rfl, hb⟩; refine ⟨_, rfl, ?_⟩; have n0_ := Aside0.mk (Kd.R_below (by (with_reducible repeat (first | apply Kd.R_alloc | apply Kd.R_drewN | apply Kd.R_drew)); exact HO_3.out) hb); have n1_ := Aside0.mk (below_step (by repeat (first | (with_reducible first | exact HB.out | apply below_alloc | apply pw_below_drewN | apply below_drew1) | exact HB.out)) hb); clear HO_3; clear HB; have HO_3 := n0_; have HB := n1_; clear n0_ n1_; (try clear hb); (try clear hb2); (try clear hk); (try clear hi)))
        go_ret
        exact ⟨by first | rfl | (simp [errW_none, errW_some] <;> rfl) | (simp [*, errW_none, errW_some] <;> rfl), by repeat (first | (with_reducible first | exact HB.out | apply below_alloc | apply pw_below_drewN | apply below_drew1) | exact HB.out)⟩
end Go.Proofs.YtfdikkdbmlcjiaaGreatDoor.M
end
section
/- Laid by this session's program hbprint.py out of the translation: the function hornbook/lex.place and its contract. -/
namespace Go.Proofs.YtfdikkdbmlcjiaaGreatDoor.M
open Go.RowKit Go.Proofs.YtfdikkdbmlcjiaaGreatDoorW.PrintWords Go.Proofs.YtfdikkdbmlcjiaaGreatDoorW.PrintLast Go.Proofs.YtfdikkdbmlcjiaaGreatDoorW.PrintMore
attribute [local go_sem] max2_int min2_int max_two min_two max_three min_three max_four min_four
set_option linter.unusedVariables false
set_option linter.unusedSimpArgs false
def lex_place.f (a0 : ByteArray) (a1 : Int) : Option (Int) := some (mx 0 (mn a1 (a0.size : Int)))
set_option maxHeartbeats 8000000 in
set_option maxRecDepth 100000 in
theorem lex_place.calls (a0 : ByteArray) (a1 : Int) (r : Int) (w : World) (h : lex_place.f a0 a1 = some r) :
    Calls Tryz.prog 34 #[.string a0, .int .i64 a1] w fun e w' => e = .returned (.int .i64 r) ∧ Below w.heap.size w w' := by
  have HB := Aside0.mk (Below.refl w.heap.size w)
  have H : (some (mx 0 (mn a1 (a0.size : Int)))) = some r := h
  clear h
  obtain ⟨ji3, hji3⟩ : ∃ j_ : Int, (mn a1 (a0.size : Int)) = j_ := ⟨_, rfl⟩
  replace H : (some (mx 0 (ji3))) = some r := by first | (rw [hji3] at H; exact H) | (simp only [hji3] at H ⊢; exact H)
  have hji3_ : (if (a0.size : Int) < a1 then (a0.size : Int) else a1) = ji3 := hji3
  obtain ⟨ji4, hji4⟩ : ∃ j_ : Int, (mx 0 (ji3)) = j_ := ⟨_, rfl⟩
  replace H : (some ji4) = some r := by first | (rw [hji4] at H; exact H) | (simp only [hji4] at H ⊢; exact H)
  have hji4_ : (if 0 < (ji3) then (ji3) else 0) = ji4 := hji4
  obtain rfl := Option.some.inj H
  go_enter Tryz.func34, Tryz.ntmps34
  go_wp2
  go_ret
  exact ⟨by first | rfl | (simp [errW_none, errW_some] <;> rfl) | (simp only [← hji3, ← hji4]; first | rfl | (simp [errW_none, errW_some] <;> rfl)) | (simp [*, errW_none, errW_some] <;> rfl), by repeat (first | (with_reducible first | exact HB.out | apply below_alloc | apply pw_below_drewN | apply below_drew1) | exact HB.out)⟩
end Go.Proofs.YtfdikkdbmlcjiaaGreatDoor.M
end
section
/- Laid by this session's program hbprint.py out of the translation: the function hornbook/lex.Skip and its contract. -/
namespace Go.Proofs.YtfdikkdbmlcjiaaGreatDoor.M
open Go.RowKit Go.Proofs.YtfdikkdbmlcjiaaGreatDoorW.PrintWords Go.Proofs.YtfdikkdbmlcjiaaGreatDoorW.PrintLast Go.Proofs.YtfdikkdbmlcjiaaGreatDoorW.PrintMore
attribute [local go_sem] max2_int min2_int max_two min_two max_three min_three max_four min_four
set_option linter.unusedVariables false
set_option linter.unusedSimpArgs false
mutual
def lex_Skip.l0 : Nat → ByteArray → Int → Option (Int)
  | 0, _, _ => none
  | k + 1, x0, x5 => if x5 < (x0.size : Int) then (if 0 ≤ x5 then (if (bt x0 x5) = 37 then (if x5 ≤ (x0.size : Int) then ((strings_IndexByte.f (x0.extract (x5 : Int).toNat x0.size) 10).bind fun t103 => ((strings_IndexByte.f (x0.extract (x5 : Int).toNat x0.size) 13).bind fun t104 => (if t104 ≥ 0 then (if t103 < 0 then (lex_Skip.j1 k x0 x5 t103 t104 true) else (lex_Skip.j1 k x0 x5 t103 t104 (decide (t104 < t103)))) else (lex_Skip.j1 k x0 x5 t103 t104 false)))) else (none)) else ((lex_Class.f k (wrap64 (bt x0 x5))).bind fun t105 => (if t105 = 1 then (lex_Skip.l0 k x0 (wrap64 (x5 + 1))) else (some x5)))) else (none)) else (some x5)
def lex_Skip.j1 : Nat → ByteArray → Int → Int → Int → Bool → Option (Int)
  | 0, _, _, _, _, _ => none
  | k + 1, x0, x5, x6, x7, x38 => if x38 = true then (if x7 < 0 then (some (x0.size : Int)) else (lex_Skip.l0 k x0 (wrap64 ((wrap64 (x5 + x7)) + 1)))) else (if x6 < 0 then (some (x0.size : Int)) else (lex_Skip.l0 k x0 (wrap64 ((wrap64 (x5 + x6)) + 1))))
end
def lex_Skip.f (k : Nat) (a0 : ByteArray) (a1 : Int) : Option (Int) := (lex_place.f a0 a1).bind fun t102 => (lex_Skip.l0 k a0 t102)
theorem lex_Skip.mono_l : ∀ k, (∀ y0 y1, LeO (lex_Skip.l0 k y0 y1) (lex_Skip.l0 (k + 1) y0 y1)) ∧ (∀ y0 y1 y2 y3 y4, LeO (lex_Skip.j1 k y0 y1 y2 y3 y4) (lex_Skip.j1 (k + 1) y0 y1 y2 y3 y4))
  | 0 => ⟨fun _ _ r h => by simp [lex_Skip.l0] at h, fun _ _ _ _ _ r h => by simp [lex_Skip.j1] at h⟩
  | k + 1 => by
    obtain ⟨ih0, ih1⟩ := lex_Skip.mono_l k
    refine ⟨?_, ?_⟩
    · intro y0 y1
      unfold lex_Skip.l0
      repeat' first
      | (with_reducible exact ih0 _ _)
      | (with_reducible exact ih1 _ _ _ _ _)
      | (with_reducible exact lex_Class.mono _ _)
      | (with_reducible exact LeO.refl _)
      | (with_reducible exact LeO.none _)
      | (with_reducible refine LeO.ite ?_ ?_)
      | (with_reducible refine LeO.bind ?_ (fun _ => ?_))
      | exact ih0 _ _
      | exact ih1 _ _ _ _ _
      | exact lex_Class.mono _ _
      | exact LeO.none _
      | refine LeO.ite ?_ ?_
      | refine LeO.bind ?_ (fun _ => ?_)
    · intro y0 y1 y2 y3 y4
      unfold lex_Skip.j1
      repeat' first
      | (with_reducible exact ih0 _ _)
      | (with_reducible exact ih1 _ _ _ _ _)
      | (with_reducible exact lex_Class.mono _ _)
      | (with_reducible exact LeO.refl _)
      | (with_reducible exact LeO.none _)
      | (with_reducible refine LeO.ite ?_ ?_)
      | (with_reducible refine LeO.bind ?_ (fun _ => ?_))
      | exact ih0 _ _
      | exact ih1 _ _ _ _ _
      | exact lex_Class.mono _ _
      | exact LeO.none _
      | refine LeO.ite ?_ ?_
      | refine LeO.bind ?_ (fun _ => ?_)
theorem lex_Skip.mono : ∀ a0 a1 k, LeO (lex_Skip.f k a0 a1) (lex_Skip.f (k + 1) a0 a1) := by
  intro a0 a1 k
  obtain ⟨ih0, ih1⟩ := lex_Skip.mono_l k
  unfold lex_Skip.f
  repeat' first
      | (with_reducible exact ih0 _ _)
      | (with_reducible exact ih1 _ _ _ _ _)
      | (with_reducible exact lex_Class.mono _ _)
      | (with_reducible exact LeO.refl _)
      | (with_reducible exact LeO.none _)
      | (with_reducible refine LeO.ite ?_ ?_)
      | (with_reducible refine LeO.bind ?_ (fun _ => ?_))
      | exact ih0 _ _
      | exact ih1 _ _ _ _ _
      | exact lex_Class.mono _ _
      | exact LeO.none _
      | refine LeO.ite ?_ ?_
      | refine LeO.bind ?_ (fun _ => ?_)
set_option maxHeartbeats 8000000 in
set_option maxRecDepth 100000 in
theorem lex_Skip.calls (k : Nat) (a0 : ByteArray) (a1 : Int) (r : Int) (w : World) (h : lex_Skip.f k a0 a1 = some r) :
    Calls Tryz.prog 17 #[.string a0, .int .i64 a1] w fun e w' => e = .returned (.int .i64 r) ∧ Below w.heap.size w w' := by
  have HB := Aside0.mk (Below.refl w.heap.size w)
  have H : ((lex_place.f a0 a1).bind fun t102 => (lex_Skip.l0 k a0 t102)) = some r := h
  clear h
  replace H := Option.bind_eq_some_iff.mp H
  obtain ⟨t102, A30, H⟩ := H
  replace H : (lex_Skip.l0 k a0 t102) = some r := H
  have A3 := Aside0.mk A30
  clear A30
  have H' := Aside0.mk H
  clear H
  go_enter Tryz.func17, Tryz.ntmps17
  go_wp2_with (first | ((with_reducible refine gate_callee (f := 34) rfl ?_); refine goesL_ (some 10) rfl rfl Tryz.func34 (by kernel_rfl) rfl #[.string a0, .int .i64 a1] rfl (by (try simp only [List.map_toArray, List.map_cons, List.map_nil]); first | done | rfl | (simp only [List.length_drop, List.length_take]; rfl)) ?_; (with_reducible refine (lex_place.calls a0 a1 t102 _ A3.out).mono ?_); rintro e w4 ⟨rfl, hb⟩; refine ⟨_, rfl, ?_⟩; have n0_ := Aside0.mk (below_step (by repeat (first | (with_reducible first | exact HB.out | apply below_alloc | apply pw_below_drewN | apply below_drew1) | exact HB.out)) hb); clear HB; have HB := n0_; clear n0_; (try clear hb); (try clear hb2); (try clear hk); (try clear hi)))
  go_loopg [5] k (fun kq v5 w' => ∃ (x5_1 : Int), v5 = .int .i64 x5_1 ∧ Aside0 (lex_Skip.l0 kq a0 x5_1 = some r) ∧ Aside0 (kq ≤ k) ∧ Aside0 (Below w.heap.size w w'))
  case atStart => exact ⟨(t102), (by first | rfl | (simp; done) | (simp [*]; done)), H', ⟨Nat.le_refl _⟩, ⟨by repeat (first | (with_reducible first | exact HB.out | apply below_alloc | apply pw_below_drewN | apply below_drew1) | exact HB.out)⟩⟩
  case round =>
    clear H'
    try clear c1
    try clear p2
    try clear c3
    obtain ⟨x5_1, rfl, HA, HK1, HB⟩ := hrel
    cases gk with
    | zero => exact absurd HA.out (by simp [lex_Skip.l0])
    | succ k1 =>
      have H := HA.out
      clear HA
      simp only [lex_Skip.l0] at H
      by_cases c5 : x5_1 < (a0.size : Int)
      · rw [if_pos c5] at H
        have c5b0 : decide (x5_1 < (a0.size : Int)) = true := decide_eq_true c5
        clear c5
        by_cases c6 : 0 ≤ x5_1
        · rw [if_pos c6] at H
          have c6b0 : decide (0 ≤ x5_1) = true := decide_eq_true c6
          clear c6
          by_cases c8 : (bt a0 x5_1) = 37
          · rw [if_pos c8] at H
            have c8b0 : ((bt a0 x5_1) == 37) = true := beq_iff_eq.mpr c8
            have c8b1 : ((bt a0 x5_1) != 37) = false := bne_eq_false_iff_eq.mpr c8
            clear c8
            have c9b0 := eq_true (of_decide_eq_true (by first | (with_reducible assumption) | assumption) : 0 ≤ x5_1)
            by_cases c10 : x5_1 ≤ (a0.size : Int)
            · rw [if_pos c10] at H
              have c10b0 := eq_true c10
              have c10b1 : decide (x5_1 ≤ (a0.size : Int)) = true := decide_eq_true c10
              clear c10
              replace H := Option.bind_eq_some_iff.mp H
              obtain ⟨t103, A110, H⟩ := H
              replace H : ((strings_IndexByte.f (a0.extract (x5_1 : Int).toNat a0.size) 13).bind fun t104 => (if t104 ≥ 0 then (if t103 < 0 then (lex_Skip.j1 k1 a0 x5_1 t103 t104 true) else (lex_Skip.j1 k1 a0 x5_1 t103 t104 (decide (t104 < t103)))) else (lex_Skip.j1 k1 a0 x5_1 t103 t104 false))) = some r := H
              have A11 := Aside0.mk A110
              clear A110
              have c12b0 := eq_true (of_decide_eq_true (by first | (with_reducible assumption) | assumption) : 0 ≤ x5_1)
              have c13b0 := eq_true (of_decide_eq_true (by first | (with_reducible assumption) | assumption) : x5_1 ≤ (a0.size : Int))
              replace H := Option.bind_eq_some_iff.mp H
              obtain ⟨t104, A140, H⟩ := H
              replace H : (if t104 ≥ 0 then (if t103 < 0 then (lex_Skip.j1 k1 a0 x5_1 t103 t104 true) else (lex_Skip.j1 k1 a0 x5_1 t103 t104 (decide (t104 < t103)))) else (lex_Skip.j1 k1 a0 x5_1 t103 t104 false)) = some r := H
              have A14 := Aside0.mk A140
              clear A140
              have HC15 := Aside0.mk H
              clear H
              have p7 : 0 ≤ (x5_1 : Int) := of_decide_eq_true (by first | (with_reducible assumption) | assumption)
              have q7 : x5_1 < (a0.size : Int) := of_decide_eq_true (by first | (with_reducible assumption) | assumption)
              have hx7 := bt_at a0 x5_1
              replace p7 := eq_true p7
              replace q7 := eq_true q7
              go_upto_region 6 with (first | ((with_reducible refine gate_callee (f := 35) rfl ?_); refine goesL_ (some 23) rfl rfl Tryz.func35 (by kernel_rfl) rfl #[.string (a0.extract (x5_1 : Int).toNat a0.size), .int .u8 10] rfl (by (try simp only [List.map_toArray, List.map_cons, List.map_nil]); first | done | rfl | (simp only [List.length_drop, List.length_take]; rfl)) ?_; (with_reducible refine (strings_IndexByte.calls (a0.extract (x5_1 : Int).toNat a0.size) 10 t103 _ A11.out).mono ?_); rintro e w' ⟨rfl, ⟨nd, rfl⟩⟩; refine ⟨_, rfl, ?_⟩) | ((with_reducible refine gate_callee (f := 35) rfl ?_); refine goesL_ (some 27) rfl rfl Tryz.func35 (by kernel_rfl) rfl #[.string (a0.extract (x5_1 : Int).toNat a0.size), .int .u8 13] rfl (by (try simp only [List.map_toArray, List.map_cons, List.map_nil]); first | done | rfl | (simp only [List.length_drop, List.length_take]; rfl)) ?_; (with_reducible refine (strings_IndexByte.calls (a0.extract (x5_1 : Int).toNat a0.size) 13 t104 _ A14.out).mono ?_); rintro e w' ⟨rfl, ⟨nd, rfl⟩⟩; refine ⟨_, rfl, ?_⟩))
              (try simp only [Act.put, List.setIfInBounds_toArray, List.set_cons_zero, List.set_cons_succ])
              go_cut [38] (fun v38 wc => ∃ (kq : Nat) (x38_14 : Bool), v38 = .bool x38_14 ∧ Aside0 (lex_Skip.j1 kq a0 x5_1 t103 t104 x38_14 = some r) ∧ Aside0 (kq ≤ k1) ∧ Aside0 (Below w.heap.size w wc))
              case first =>
                have H := HC15.out
                clear HC15
                by_cases c16 : t104 ≥ 0
                · rw [if_pos c16] at H
                  have c16b0 : decide (0 ≤ t104) = true := decide_eq_true c16
                  clear c16
                  (first | rw [c16b0] | (simp only [i64_w, i32_w]; rw [c16b0]) | skip)
                  by_cases c17 : t103 < 0
                  · rw [if_pos c17] at H
                    have c17b0 : decide (t103 < 0) = true := decide_eq_true c17
                    clear c17
                    have H' := Aside0.mk H
                    clear H
                    go_wp2
                    go_meet
                    case rel => exact ⟨_, (true), (by first | rfl | (simp; done) | (simp [*]; done)), H', ⟨by have := HK1.out; first | omega | exact Nat.le_refl _⟩, ⟨by repeat (first | (with_reducible first | exact HB.out | apply below_alloc | apply pw_below_drewN | apply below_drew1) | exact HB.out)⟩⟩
                  · rw [if_neg c17] at H
                    have c17b0 : decide (t103 < 0) = false := decide_eq_false c17
                    clear c17
                    have H' := Aside0.mk H
                    clear H
                    go_wp2
                    go_meet
                    case rel => exact ⟨_, (decide (t104 < t103)), (by first | rfl | (simp; done) | (simp [*]; done)), H', ⟨by have := HK1.out; first | omega | exact Nat.le_refl _⟩, ⟨by repeat (first | (with_reducible first | exact HB.out | apply below_alloc | apply pw_below_drewN | apply below_drew1) | exact HB.out)⟩⟩
                · rw [if_neg c16] at H
                  have c16b0 : decide (0 ≤ t104) = false := decide_eq_false c16
                  clear c16
                  (first | rw [c16b0] | (simp only [i64_w, i32_w]; rw [c16b0]) | skip)
                  have H' := Aside0.mk H
                  clear H
                  go_wp2
                  go_meet
                  case rel => exact ⟨_, (false), (by first | rfl | (simp; done) | (simp [*]; done)), H', ⟨by have := HK1.out; first | omega | exact Nat.le_refl _⟩, ⟨by repeat (first | (with_reducible first | exact HB.out | apply below_alloc | apply pw_below_drewN | apply below_drew1) | exact HB.out)⟩⟩
              case rest =>
                clear HC15
                try clear c1
                try clear p2
                try clear c3
                try clear c5
                try clear c5b0
                try clear c6
                try clear c6b0
                try clear p7
                try clear q7
                try clear hx7
                try clear c8
                try clear c8b0
                try clear c8b1
                try clear c9
                try clear c9b0
                try clear c10
                try clear c10b0
                try clear c10b1
                try clear c12
                try clear c12b0
                try clear c13
                try clear c13b0
                try clear c16
                try clear c16b0
                try clear c17
                try clear c17b0
                try clear p2
                try clear p7
                try clear q7
                obtain ⟨kq, x38_14, rfl, HA, HJ14, HB⟩ := hcut
                cases kq with
                | zero => exact absurd HA.out (by simp [lex_Skip.j1])
                | succ kj14 =>
                  have H := HA.out
                  clear HA
                  simp only [lex_Skip.j1] at H
                  by_cases c18 : x38_14 = true
                  · subst c18
                    have H1 : (if t104 < 0 then (some (a0.size : Int)) else (lex_Skip.l0 kj14 a0 (wrap64 ((wrap64 (x5_1 + t104)) + 1)))) = some r := by rw [if_pos rfl] at H; exact H
                    clear H
                    have H := H1
                    clear H1
                    by_cases c19 : t104 < 0
                    · rw [if_pos c19] at H
                      have c19b0 : decide (t104 < 0) = true := decide_eq_true c19
                      clear c19
                      obtain rfl := Option.some.inj H
                      go_wp2
                      go_ret
                      exact ⟨by first | rfl | (simp [errW_none, errW_some] <;> rfl) | (simp [*, errW_none, errW_some] <;> rfl), by repeat (first | (with_reducible first | exact HB.out | apply below_alloc | apply pw_below_drewN | apply below_drew1) | exact HB.out)⟩
                    · rw [if_neg c19] at H
                      have c19b0 : decide (t104 < 0) = false := decide_eq_false c19
                      clear c19
                      have H' := Aside0.mk H
                      clear H
                      go_wp2
                      go_roundg kj14
                      case measure => have := HK1.out; have := HJ14.out; omega
                      case rel => exact ⟨(wrap64 ((wrap64 (x5_1 + t104)) + 1)), (by first | rfl | (simp; done) | (simp [*]; done)), H', ⟨by have := HK1.out; have := HJ14.out; omega⟩, ⟨by repeat (first | (with_reducible first | exact HB.out | apply below_alloc | apply pw_below_drewN | apply below_drew1) | exact HB.out)⟩⟩
                  · replace c18 := Bool.eq_false_iff.mpr c18
                    subst c18
                    have H1 : (if t103 < 0 then (some (a0.size : Int)) else (lex_Skip.l0 kj14 a0 (wrap64 ((wrap64 (x5_1 + t103)) + 1)))) = some r := by rw [if_neg (show ¬ (false = true) by decide)] at H; exact H
                    clear H
                    have H := H1
                    clear H1
                    by_cases c20 : t103 < 0
                    · rw [if_pos c20] at H
                      have c20b0 : decide (t103 < 0) = true := decide_eq_true c20
                      clear c20
                      obtain rfl := Option.some.inj H
                      go_wp2
                      go_ret
                      exact ⟨by first | rfl | (simp [errW_none, errW_some] <;> rfl) | (simp [*, errW_none, errW_some] <;> rfl), by repeat (first | (with_reducible first | exact HB.out | apply below_alloc | apply pw_below_drewN | apply below_drew1) | exact HB.out)⟩
                    · rw [if_neg c20] at H
                      have c20b0 : decide (t103 < 0) = false := decide_eq_false c20
                      clear c20
                      have H' := Aside0.mk H
                      clear H
                      go_wp2
                      go_roundg kj14
                      case measure => have := HK1.out; have := HJ14.out; omega
                      case rel => exact ⟨(wrap64 ((wrap64 (x5_1 + t103)) + 1)), (by first | rfl | (simp; done) | (simp [*]; done)), H', ⟨by have := HK1.out; have := HJ14.out; omega⟩, ⟨by repeat (first | (with_reducible first | exact HB.out | apply below_alloc | apply pw_below_drewN | apply below_drew1) | exact HB.out)⟩⟩
            · rw [if_neg c10] at H
              exact absurd H (by simp)
          · rw [if_neg c8] at H
            have c8b0 : ((bt a0 x5_1) == 37) = false := beq_eq_false_iff_ne.mpr c8
            have c8b1 : ((bt a0 x5_1) != 37) = true := bne_iff_ne.mpr c8
            replace H := Option.bind_eq_some_iff.mp H
            obtain ⟨t105, A220, H⟩ := H
            replace H : (if t105 = 1 then (lex_Skip.l0 k1 a0 (wrap64 (x5_1 + 1))) else (some x5_1)) = some r := H
            have A22 := Aside0.mk A220
            clear A220
            by_cases c23 : t105 = 1
            · rw [if_pos c23] at H
              have c23b0 : (t105 == 1) = true := beq_iff_eq.mpr c23
              have c23b1 : (t105 != 1) = false := bne_eq_false_iff_eq.mpr c23
              clear c23
              have H' := Aside0.mk H
              clear H
              have p7 : 0 ≤ (x5_1 : Int) := of_decide_eq_true (by first | (with_reducible assumption) | assumption)
              have q7 : x5_1 < (a0.size : Int) := of_decide_eq_true (by first | (with_reducible assumption) | assumption)
              have hx7 := bt_at a0 x5_1
              replace p7 := eq_true p7
              replace q7 := eq_true q7
              have p21 : 0 ≤ (x5_1 : Int) := of_decide_eq_true (by first | (with_reducible assumption) | assumption)
              have q21 : x5_1 < (a0.size : Int) := of_decide_eq_true (by first | (with_reducible assumption) | assumption)
              have hx21 := bt_at a0 x5_1
              replace p21 := eq_true p21
              replace q21 := eq_true q21
              go_wp2_with (first | ((with_reducible refine gate_callee (f := 12) rfl ?_); refine goesL_ (some 52) rfl rfl Tryz.func12 (by kernel_rfl) rfl #[.int .i64 (wrap64 (bt a0 x5_1))] rfl (by (try simp only [List.map_toArray, List.map_cons, List.map_nil]); first | done | rfl | (simp only [List.length_drop, List.length_take]; rfl)) ?_; (with_reducible refine (lex_Class.calls k1 (wrap64 (bt a0 x5_1)) t105 _ A22.out).mono ?_); rintro e w24 ⟨rfl, hb⟩; refine ⟨_, rfl, ?_⟩; have n0_ := Aside0.mk (below_step (by repeat (first | (with_reducible first | exact HB.out | apply below_alloc | apply pw_below_drewN | apply below_drew1) | exact HB.out)) hb); clear HB; have HB := n0_; clear n0_; (try clear hb); (try clear hb2); (try clear hk); (try clear hi)))
              go_roundg k1
              case measure => have := HK1.out; omega
              case rel => exact ⟨(wrap64 (x5_1 + 1)), (by first | rfl | (simp; done) | (simp [*]; done)), H', ⟨by have := HK1.out; omega⟩, ⟨by repeat (first | (with_reducible first | exact HB.out | apply below_alloc | apply pw_below_drewN | apply below_drew1) | exact HB.out)⟩⟩
            · rw [if_neg c23] at H
              have c23b0 : (t105 == 1) = false := beq_eq_false_iff_ne.mpr c23
              have c23b1 : (t105 != 1) = true := bne_iff_ne.mpr c23
              obtain rfl := Option.some.inj H
              have p7 : 0 ≤ (x5_1 : Int) := of_decide_eq_true (by first | (with_reducible assumption) | assumption)
              have q7 : x5_1 < (a0.size : Int) := of_decide_eq_true (by first | (with_reducible assumption) | assumption)
              have hx7 := bt_at a0 x5_1
              replace p7 := eq_true p7
              replace q7 := eq_true q7
              have p21 : 0 ≤ (x5_1 : Int) := of_decide_eq_true (by first | (with_reducible assumption) | assumption)
              have q21 : x5_1 < (a0.size : Int) := of_decide_eq_true (by first | (with_reducible assumption) | assumption)
              have hx21 := bt_at a0 x5_1
              replace p21 := eq_true p21
              replace q21 := eq_true q21
              go_wp2_with (first | ((with_reducible refine gate_callee (f := 12) rfl ?_); refine goesL_ (some 52) rfl rfl Tryz.func12 (by kernel_rfl) rfl #[.int .i64 (wrap64 (bt a0 x5_1))] rfl (by (try simp only [List.map_toArray, List.map_cons, List.map_nil]); first | done | rfl | (simp only [List.length_drop, List.length_take]; rfl)) ?_; (with_reducible refine (lex_Class.calls k1 (wrap64 (bt a0 x5_1)) t105 _ A22.out).mono ?_); rintro e w25 ⟨rfl, hb⟩; refine ⟨_, rfl, ?_⟩; have n0_ := Aside0.mk (below_step (by repeat (first | (with_reducible first | exact HB.out | apply below_alloc | apply pw_below_drewN | apply below_drew1) | exact HB.out)) hb); clear HB; have HB := n0_; clear n0_; (try clear hb); (try clear hb2); (try clear hk); (try clear hi)))
              go_ret
              exact ⟨by first | rfl | (simp [errW_none, errW_some] <;> rfl) | (simp [*, errW_none, errW_some] <;> rfl), by repeat (first | (with_reducible first | exact HB.out | apply below_alloc | apply pw_below_drewN | apply below_drew1) | exact HB.out)⟩
        · rw [if_neg c6] at H
          exact absurd H (by simp)
      · rw [if_neg c5] at H
        have c5b0 : decide (x5_1 < (a0.size : Int)) = false := decide_eq_false c5
        clear c5
        obtain rfl := Option.some.inj H
        go_wp2
        go_ret
        exact ⟨by first | rfl | (simp [errW_none, errW_some] <;> rfl) | (simp [*, errW_none, errW_some] <;> rfl), by repeat (first | (with_reducible first | exact HB.out | apply below_alloc | apply pw_below_drewN | apply below_drew1) | exact HB.out)⟩
end Go.Proofs.YtfdikkdbmlcjiaaGreatDoor.M
end
section
/- Laid by this session's program hbprint.py out of the translation: the function  hornbook/tok.source .from and its contract. -/
namespace Go.Proofs.YtfdikkdbmlcjiaaGreatDoor.M
open Go.RowKit Go.Proofs.YtfdikkdbmlcjiaaGreatDoorW.PrintWords Go.Proofs.YtfdikkdbmlcjiaaGreatDoorW.PrintLast Go.Proofs.YtfdikkdbmlcjiaaGreatDoorW.PrintMore
attribute [local go_sem] max2_int min2_int max_two min_two max_three min_three max_four min_four
set_option linter.unusedVariables false
set_option linter.unusedSimpArgs false
def tok_source_from.f (a0 : ByteArray) (a1 : Int) : Option (ByteArray) := if 0 ≤ (mn a1 (a0.size : Int)) then (if (mn a1 (a0.size : Int)) ≤ (a0.size : Int) then (some (a0.extract ((mn a1 (a0.size : Int)) : Int).toNat a0.size)) else (none)) else (none)
set_option maxHeartbeats 8000000 in
set_option maxRecDepth 100000 in
theorem tok_source_from.calls (a0 : ByteArray) (a1 : Int) (r : ByteArray) (w : World) (h : tok_source_from.f a0 a1 = some r) :
    Calls Tryz.prog 37 #[.string a0, .int .i64 a1] w fun e w' => e = .returned (.string r) ∧ Below w.heap.size w w' := by
  have HB := Aside0.mk (Below.refl w.heap.size w)
  have H : (if 0 ≤ (mn a1 (a0.size : Int)) then (if (mn a1 (a0.size : Int)) ≤ (a0.size : Int) then (some (a0.extract ((mn a1 (a0.size : Int)) : Int).toNat a0.size)) else (none)) else (none)) = some r := h
  clear h
  obtain ⟨ji3, hji3⟩ : ∃ j_ : Int, (mn a1 (a0.size : Int)) = j_ := ⟨_, rfl⟩
  replace H : (if 0 ≤ (ji3) then (if (ji3) ≤ (a0.size : Int) then (some (a0.extract ((ji3) : Int).toNat a0.size)) else (none)) else (none)) = some r := by first | (rw [hji3] at H; exact H) | (simp only [hji3] at H ⊢; exact H)
  have hji3_ : (if (a0.size : Int) < a1 then (a0.size : Int) else a1) = ji3 := hji3
  by_cases c4 : 0 ≤ (ji3)
  · rw [if_pos c4] at H
    have c4b0 := eq_true c4
    have c4b1 : decide (0 ≤ (ji3)) = true := decide_eq_true c4
    clear c4
    by_cases c5 : (ji3) ≤ (a0.size : Int)
    · rw [if_pos c5] at H
      have c5b0 := eq_true c5
      have c5b1 : decide ((ji3) ≤ (a0.size : Int)) = true := decide_eq_true c5
      clear c5
      obtain rfl := Option.some.inj H
      go_enter Tryz.func37, Tryz.ntmps37
      go_wp2
      go_ret
      exact ⟨by first | rfl | (simp [errW_none, errW_some] <;> rfl) | (simp only [← hji3]; first | rfl | (simp [errW_none, errW_some] <;> rfl)) | (simp [*, errW_none, errW_some] <;> rfl), by repeat (first | (with_reducible first | exact HB.out | apply below_alloc | apply pw_below_drewN | apply below_drew1) | exact HB.out)⟩
    · rw [if_neg c5] at H
      exact absurd H (by simp)
  · rw [if_neg c4] at H
    exact absurd H (by simp)
end Go.Proofs.YtfdikkdbmlcjiaaGreatDoor.M
end
section
/- Laid by this session's program hbprint.py out of the translation: the function internal/stringslite.HasPrefix and its contract. -/
namespace Go.Proofs.YtfdikkdbmlcjiaaGreatDoor.M
open Go.RowKit Go.Proofs.YtfdikkdbmlcjiaaGreatDoorW.PrintWords Go.Proofs.YtfdikkdbmlcjiaaGreatDoorW.PrintLast Go.Proofs.YtfdikkdbmlcjiaaGreatDoorW.PrintMore
attribute [local go_sem] max2_int min2_int max_two min_two max_three min_three max_four min_four
set_option linter.unusedVariables false
set_option linter.unusedSimpArgs false
def stringslite_HasPrefix.f (a0 : ByteArray) (a1 : ByteArray) : Option (Bool) := if (a0.size : Int) ≥ (a1.size : Int) then (if 0 ≤ (a1.size : Int) then (if (a1.size : Int) ≤ (a0.size : Int) then (some ((a0.extract 0 ((a1.size : Int) : Int).toNat).toList == a1.toList)) else (none)) else (none)) else (some false)
set_option maxHeartbeats 8000000 in
set_option maxRecDepth 100000 in
theorem stringslite_HasPrefix.calls (a0 : ByteArray) (a1 : ByteArray) (r : Bool) (w : World) (h : stringslite_HasPrefix.f a0 a1 = some r) :
    Calls Tryz.prog 51 #[.string a0, .string a1] w fun e w' => e = .returned (.bool r) ∧ Drawn0 w w' := by
  have H : (if (a0.size : Int) ≥ (a1.size : Int) then (if 0 ≤ (a1.size : Int) then (if (a1.size : Int) ≤ (a0.size : Int) then (some ((a0.extract 0 ((a1.size : Int) : Int).toNat).toList == a1.toList)) else (none)) else (none)) else (some false)) = some r := h
  clear h
  by_cases c3 : (a0.size : Int) ≥ (a1.size : Int)
  · rw [if_pos c3] at H
    have c3b0 : decide ((a1.size : Int) ≤ (a0.size : Int)) = true := decide_eq_true c3
    have c3b1 : decide (a1.size ≤ a0.size) = true := decide_eq_true (Int.ofNat_le.mp c3)
    clear c3
    by_cases c4 : 0 ≤ (a1.size : Int)
    · rw [if_pos c4] at H
      have c4b0 := eq_true c4
      have c4b1 : decide (0 ≤ (a1.size : Int)) = true := decide_eq_true c4
      clear c4
      by_cases c5 : (a1.size : Int) ≤ (a0.size : Int)
      · rw [if_pos c5] at H
        have c5b0 := eq_true c5
        have c5b1 : decide ((a1.size : Int) ≤ (a0.size : Int)) = true := decide_eq_true c5
        clear c5
        obtain rfl := Option.some.inj H
        go_enter Tryz.func51, Tryz.ntmps51
        go_wp2
        go_ret
        exact ⟨by first | rfl | (simp; done) | (simp [*]; done), by repeat (first | exact Drawn0.refl _ | apply Drawn0.step)⟩
      · rw [if_neg c5] at H
        exact absurd H (by simp)
    · rw [if_neg c4] at H
      exact absurd H (by simp)
  · rw [if_neg c3] at H
    have c3b0 : decide ((a1.size : Int) ≤ (a0.size : Int)) = false := decide_eq_false c3
    have c3b1 : decide (a1.size ≤ a0.size) = false := decide_eq_false (fun h => c3 (Int.ofNat_le.mpr h))
    clear c3
    obtain rfl := Option.some.inj H
    go_enter Tryz.func51, Tryz.ntmps51
    go_wp2
    go_ret
    exact ⟨by first | rfl | (simp; done) | (simp [*]; done), by repeat (first | exact Drawn0.refl _ | apply Drawn0.step)⟩
end Go.Proofs.YtfdikkdbmlcjiaaGreatDoor.M
end
section
/- Laid by this session's program hbprint.py out of the translation: the function strings.HasPrefix and its contract. -/
namespace Go.Proofs.YtfdikkdbmlcjiaaGreatDoor.M
open Go.RowKit Go.Proofs.YtfdikkdbmlcjiaaGreatDoorW.PrintWords Go.Proofs.YtfdikkdbmlcjiaaGreatDoorW.PrintLast Go.Proofs.YtfdikkdbmlcjiaaGreatDoorW.PrintMore
attribute [local go_sem] max2_int min2_int max_two min_two max_three min_three max_four min_four
set_option linter.unusedVariables false
set_option linter.unusedSimpArgs false
def strings_HasPrefix.f (a0 : ByteArray) (a1 : ByteArray) : Option (Bool) := (stringslite_HasPrefix.f a0 a1).bind fun t106 => (some t106)
set_option maxHeartbeats 8000000 in
set_option maxRecDepth 100000 in
theorem strings_HasPrefix.calls (a0 : ByteArray) (a1 : ByteArray) (r : Bool) (w : World) (h : strings_HasPrefix.f a0 a1 = some r) :
    Calls Tryz.prog 36 #[.string a0, .string a1] w fun e w' => e = .returned (.bool r) ∧ Drawn0 w w' := by
  have H : ((stringslite_HasPrefix.f a0 a1).bind fun t106 => (some t106)) = some r := h
  clear h
  replace H := Option.bind_eq_some_iff.mp H
  obtain ⟨t106, A30, H⟩ := H
  replace H : (some t106) = some r := H
  have A3 := Aside0.mk A30
  clear A30
  obtain rfl := Option.some.inj H
  go_enter Tryz.func36, Tryz.ntmps36
  go_wp2_with (first | ((with_reducible refine gate_callee (f := 51) rfl ?_); refine goesL_ (some 7) rfl rfl Tryz.func51 (by kernel_rfl) rfl #[.string a0, .string a1] rfl (by (try simp only [List.map_toArray, List.map_cons, List.map_nil]); first | done | rfl | (simp only [List.length_drop, List.length_take]; rfl)) ?_; (with_reducible refine (stringslite_HasPrefix.calls a0 a1 t106 _ A3.out).mono ?_); rintro e w' ⟨rfl, ⟨nd, rfl⟩⟩; refine ⟨_, rfl, ?_⟩))
  go_ret
  exact ⟨by first | rfl | (simp; done) | (simp [*]; done), by repeat (first | exact Drawn0.refl _ | apply Drawn0.step)⟩
end Go.Proofs.YtfdikkdbmlcjiaaGreatDoor.M
end
section
namespace Go.Proofs.YtfdikkdbmlcjiaaGreatDoor.M
open Go.RowKit Go.Maps Go.Proofs.YtfdikkdbmlcjiaaGreatDoorW.PrintWords Go.Proofs.YtfdikkdbmlcjiaaGreatDoorW.PrintLast
set_option linter.unusedVariables false
set_option linter.unusedSimpArgs false
/-- The six signs. -/
def isSign (x : Int) (s : List UInt8) : Prop := (x = 6 ∧ s = [91]) ∨ (x = 7 ∧ s = [93]) ∨ (x = 8 ∧ s = [60, 60]) ∨ (x = 9 ∧ s = [62, 62]) ∨ (x = 10 ∧ s = [123]) ∨ (x = 11 ∧ s = [125])
def signOf (l : List UInt8) : Option (Int × Nat) :=
  if [91].isPrefixOf l then some (6, 1) else if [93].isPrefixOf l then some (7, 1) else if [60, 60].isPrefixOf l then some (8, 2) else
  if [62, 62].isPrefixOf l then some (9, 2) else if [123].isPrefixOf l then some (10, 1) else if [125].isPrefixOf l then some (11, 1) else none
theorem signOf_hit {x : Int} {s l : List UInt8} (h : isSign x s) (hp : s.isPrefixOf l = true) : signOf l = some (x, s.length) := by
  rcases l with _ | ⟨a, _ | ⟨b, r⟩⟩
  · rcases h with ⟨rfl, rfl⟩ | ⟨rfl, rfl⟩ | ⟨rfl, rfl⟩ | ⟨rfl, rfl⟩ | ⟨rfl, rfl⟩ | ⟨rfl, rfl⟩ <;> simp [List.isPrefixOf] at hp
  · rcases h with ⟨rfl, rfl⟩ | ⟨rfl, rfl⟩ | ⟨rfl, rfl⟩ | ⟨rfl, rfl⟩ | ⟨rfl, rfl⟩ | ⟨rfl, rfl⟩ <;> simp only [List.isPrefixOf, Bool.and_eq_true, beq_iff_eq, Bool.and_true, Bool.and_false] at hp
    all_goals first | (subst hp; rfl) | (cases hp)
  · rcases h with ⟨rfl, rfl⟩ | ⟨rfl, rfl⟩ | ⟨rfl, rfl⟩ | ⟨rfl, rfl⟩ | ⟨rfl, rfl⟩ | ⟨rfl, rfl⟩ <;> simp only [List.isPrefixOf, Bool.and_eq_true, beq_iff_eq, Bool.and_true] at hp
    all_goals first | (subst hp; rfl) | (obtain ⟨rfl, rfl⟩ := hp; rfl)
theorem signOf_none {l : List UInt8} (h : ∀ x s, isSign x s → s.isPrefixOf l = false) : signOf l = none := by
  unfold signOf
  rw [h 6 [91] (by simp [isSign]), h 7 [93] (by simp [isSign]), h 8 [60, 60] (by simp [isSign]), h 9 [62, 62] (by simp [isSign]), h 10 [123] (by simp [isSign]), h 11 [125] (by simp [isSign])]
  rfl
def tok_source_sign.f (a0 : ByteArray) (a1 : Int) : Option (Int × Int × Int × ByteArray × Int × Bool) :=
  if 0 ≤ a1 ∧ a1 ≤ a0.size ∧ a0.size ≤ 140737488351232 then
    match signOf (a0.data.toList.drop a1.toNat) with
    | some (x, n) => some (x, a1, 0, ⟨#[]⟩, a1 + n, true)
    | none => some (0, 0, 0, ⟨#[]⟩, a1, false)
  else none
theorem sign_at {x : Int} {c : ByteArray} (hl : Maps.has signMap (.int .i64 x) = true) (hat : ∀ zd, signMap.atKey (.int .i64 x) zd = .lit (.string c.data.toList)) : isSign x c.data.toList := by
  have h0 := hat (.lit (.string []))
  simp [signMap, Maps.has, signRow, Lit.sameKey] at hl
  have hs : ∀ (y : Int) (s : List UInt8), signMap.atKey (.int .i64 y) (.lit (.string [])) = .lit (.string s) → x = y → c.data.toList = s := by
    rintro y s hy rfl
    rw [hy] at h0
    injection h0 with h0
    injection h0 with h0
    exact h0.symm
  rcases hl with e | e | e | e | e | e
  · exact .inl ⟨e.symm, hs 6 _ rfl e.symm⟩
  · exact .inr (.inl ⟨e.symm, hs 7 _ rfl e.symm⟩)
  · exact .inr (.inr (.inl ⟨e.symm, hs 8 _ rfl e.symm⟩))
  · exact .inr (.inr (.inr (.inl ⟨e.symm, hs 9 _ rfl e.symm⟩)))
  · exact .inr (.inr (.inr (.inr (.inl ⟨e.symm, hs 10 _ rfl e.symm⟩))))
  · exact .inr (.inr (.inr (.inr (.inr ⟨e.symm, hs 11 _ rfl e.symm⟩))))
theorem has_sign {x : Int} {s : List UInt8} (h : isSign x s) : Maps.has signMap (.int .i64 x) = true ∧ ∀ zd, signMap.atKey (.int .i64 x) zd = .lit (.string s) := by
  rcases h with ⟨rfl, rfl⟩ | ⟨rfl, rfl⟩ | ⟨rfl, rfl⟩ | ⟨rfl, rfl⟩ | ⟨rfl, rfl⟩ | ⟨rfl, rfl⟩ <;> exact ⟨rfl, fun _ => rfl⟩
theorem tok_one (a b c : Int) (s : ByteArray) : (#[Value.int .i64 a, .int .i64 b, .int .i64 c, .string s] : Array Value).all (·.oneCell') = true := by simp [Value.oneCell']
theorem tok_info {a b c : Int} {s : ByteArray} : (Tryz.prog.info? 31).map (·.size) = some (#[Value.int .i64 a, .int .i64 b, .int .i64 c, .string s] : Array Value).size := by
  show _ = some 4
  kernel_rfl
theorem sign_same {x : Int} {s s' : List UInt8} (h : isSign x s) (h' : isSign x s') : s = s' := by
  have a := (has_sign h).2 (.lit (.string []))
  have b := (has_sign h').2 (.lit (.string []))
  rw [a] at b
  injection b with b
  injection b with b
theorem ranges_below {w w' : World} {b r n cnt : Nat} {left : Lit → Bool} (h : w.ranges (H := Unit) Tryz.prog 3 (plainElem Tryz.prog 9) b r n signMap left cnt) (hb : Below w.heap.size w w') : w'.ranges (H := Unit) Tryz.prog 3 (plainElem Tryz.prog 9) b r n signMap left cnt := by
  obtain ⟨es, clock, since, seen, c0, h1, F, hs, hD, h2, rest⟩ := h
  exact ⟨es, clock, since, seen, c0, (hb.block b (Array.getElem?_eq_some_iff.1 h1).1).trans h1, F, hs, hD, (hb.block r (Array.getElem?_eq_some_iff.1 h2).1).trans h2, rest⟩
theorem hasPrefix_eq (a b : ByteArray) : strings_HasPrefix.f a b = some (b.data.toList.isPrefixOf a.data.toList) := by
  unfold strings_HasPrefix.f stringslite_HasPrefix.f
  by_cases h : (a.size : Int) ≥ (b.size : Int)
  · rw [if_pos h, if_pos (by omega), if_pos (by omega), Option.bind_some]
    congr 1
    rw [Int.toNat_natCast, ext_mid, ba_toList, toList_data, Nat.sub_zero, List.drop_zero, Bool.eq_iff_iff, beq_iff_eq, List.isPrefixOf_iff_prefix, List.prefix_iff_eq_take]
    exact ⟨fun e => e.symm, fun e => e.symm⟩
  · rw [if_neg h, Option.bind_some]
    congr 1
    symm
    rw [Bool.eq_false_iff]
    intro hp
    have := (List.isPrefixOf_iff_prefix.1 hp).length_le
    rw [← size_list, ← size_list] at this
    omega
set_option maxHeartbeats 1000000 in
set_option maxRecDepth 1000000 in
theorem tok_source_sign.calls (a0 : ByteArray) (a1 : Int) (r1 : Int) (r2 : Int) (r3 : Int) (r4 : ByteArray) (r5 : Int) (r6 : Bool) (w : World) (h : tok_source_sign.f a0 a1 = some (r1, r2, r3, r4, r5, r6)) :
    Calls Tryz.prog 18 #[.string a0, .int .i64 a1] w fun e w' => e = .returned (.tuple #[.agg #[.int .i64 r1, .int .i64 r2, .int .i64 r3, .string r4], .int .i64 r5, .bool r6]) ∧ Below w.heap.size w w' := by
  unfold tok_source_sign.f at h
  split at h
  case isFalse => cases h
  rename_i hb
  obtain ⟨hb0, hb1, hb2⟩ := hb
  obtain ⟨p, rfl⟩ := Int.eq_ofNat_of_zero_le hb0
  rw [Int.toNat_natCast] at h
  have hp : p ≤ a0.size := by omega
  obtain ⟨rest, hrest⟩ : ∃ rest : ByteArray, rest = ⟨(a0.data.toList.drop p).toArray⟩ := ⟨_, rfl⟩
  have hf : tok_source_from.f a0 (p : Int) = some rest := by
    have hmn : mn (p : Int) (a0.size : Int) = (p : Int) := by unfold mn; rw [if_neg (by omega)]
    unfold tok_source_from.f
    rw [hmn, if_pos (by omega), if_pos (by omega), Int.toNat_natCast, ext_from, hrest]
  have hrd : rest.data.toList = a0.data.toList.drop p := by rw [hrest]
  rw [← hrd] at h
  have HF := Aside0.mk hf
  have HH := Aside0.mk h
  clear hf h hrd hrest hb0
  go_enter Tryz.func18, Tryz.ntmps18
  go_wp2_with fail
  generalize hZ : (#[Value.int IntKind.i64 0, Value.int IntKind.i64 0, Value.int IntKind.i64 0, Value.string ⟨#[]⟩] : Array Value) = Z
  have hzs : Z.size = 4 := by rw [← hZ]; rfl
  have HZ := Aside0.mk hZ
  clear hZ
  refine (signs_calls _).mono ?_
  rintro e W1 ⟨b, rfl, hbb, hown, hb1⟩
  have hs1 : w.heap.size + 1 ≤ W1.heap.size := by have := hb1.size; simpa using this
  have hbb' : w.heap.size + 1 ≤ b := by simpa using hbb
  have HZ1 : Aside0 (W1.heap[w.heap.size]? = some (.cells Z 31 (0, 0))) := ⟨(hb1.block w.heap.size (by simp)).trans (by show (w.heap.push _)[w.heap.size]? = _; rw [Array.getElem?_push_size])⟩
  have HB1 : Aside0 (Below w.heap.size w W1) := ⟨below_step (below_alloc (Below.refl _ w) _) hb1⟩
  have HOWN := Aside0.mk hown
  clear hb1 hown hbb
  go_wp2_with (at_range; refine wpList_range_own _ rfl _ 53 rfl 3 9 key3 Tryz.underlying53 _ b 6 _ rfl HOWN.out ?_)
  intro w0 hrg0 hg0 hs0
  have HRG0 := Aside0.mk hrg0
  have HZ0 : Aside0 (w0.heap[w.heap.size]? = some (.cells Z 31 (0, 0))) := ⟨(hg0.block w.heap.size (by omega) (by simp)).trans HZ1.out⟩
  have HB0 : Aside0 (Below w.heap.size w w0) := ⟨HB1.out.grown hg0 HB1.out.size (fun k e => by cases e)⟩
  clear hrg0 hg0 HZ1 HB1 HOWN
  go_wp2_with fail
  go_loopw [7, 8] (fun _ _ wr => ∃ (left : Lit → Bool) (cnt : Nat), Aside0 (wr.ranges (H := Unit) Tryz.prog 3 (plainElem Tryz.prog 9) b W1.heap.size 6 signMap left cnt) ∧ Aside0 (Below w.heap.size w wr) ∧ Aside0 (wr.heap[w.heap.size]? = some (.cells Z 31 (0, 0))) ∧ w.heap.size + 1 ≤ wr.heap.size ∧ Aside0 (∀ kl, left kl = true → Maps.has signMap kl = true) ∧ Aside0 (∀ x s, isSign x s → left (.int .i64 x) = false → s.isPrefixOf rest.data.toList = false))
    (fun _ _ wr => wr.rangeLeft b W1.heap.size)
  case atStart => exact ⟨_, _, HRG0, HB0, HZ0, by omega, ⟨fun _ h => h⟩, ⟨fun x s hs hl => by rw [(has_sign hs).1] at hl; cases hl⟩⟩
  case round =>
    clear HRG0 HB0 HZ0
    obtain ⟨left, cnt, HRG, HB, HZR, hsr, HLE, HNO⟩ := hrel
    go_wp2_with (at_next; refine wpList_next_ranges_is _ rfl _ rfl 3 9 .i64 key3 Tryz.underlying3 Tryz.underlying9 b W1.heap.size 6 _ _ _ rfl HRG.out ?_ ?_)
    · intro _ hl0
      have hno : signOf rest.data.toList = none := signOf_none (fun x s hs => HNO.out x s hs (hl0 _))
      have hh := HH.out
      rw [hno] at hh
      simp only [Option.some.injEq, Prod.mk.injEq] at hh
      obtain ⟨rfl, rfl, rfl, rfl, rfl, rfl⟩ := hh
      go_wp2_with (refine wpList_store_row rfl 31 (.tmp 4) (.tmp 28) rfl w.heap.size #[.int .i64 0, .int .i64 0, .int .i64 0, .string ⟨#[]⟩] rfl rfl 31 _ HZR.out tok_info (by rw [hzs]; rfl) (tok_one _ _ _ _) ?_)
      refine bodyPost_ret (v := .tuple #[.agg #[.int .i64 0, .int .i64 0, .int .i64 0, .string ⟨#[]⟩], .int .i64 p, .bool false]) ?_ rfl ⟨rfl, below_setRow HB.out (Nat.le_refl _) _⟩
      exact results_ctt (fn := Tryz.f18) (p := 4) (u := 5) (v := 6) (ty := 31) rfl _ _ w.heap.size 31 _ (0, 0) _ rfl (setRow_heap wr w.heap.size _ _ 31 (0, 0) HZR.out) Tryz.underlying31 rfl tok_info
    · intro x c w1 cnt1 hwx hwc hlx hat hrg1 hlt hg1 hs1' hen
      have hsg := sign_at (HLE.out _ hlx) hat
      have hR : w.heap.size + 1 ≤ W1.heap.size := hs1
      have HZ1 : Aside0 (w1.heap[w.heap.size]? = some (.cells Z 31 (0, 0))) := ⟨(hg1.block w.heap.size (by omega) (by intro e; injection e with e; omega)).trans HZR.out⟩
      have HB1 : Aside0 (Below w.heap.size w w1) := ⟨HB.out.grown hg1 HB.out.size (fun k e => by cases e; omega)⟩
      have HRG1 := Aside0.mk hrg1
      have HSG := Aside0.mk hsg
      have HLX := Aside0.mk hlx
      have hcs : c.size ≤ 2 := by
        rcases hsg with ⟨-, e⟩ | ⟨-, e⟩ | ⟨-, e⟩ | ⟨-, e⟩ | ⟨-, e⟩ | ⟨-, e⟩ <;> rw [size_list, e] <;> decide
      have hpre := hasPrefix_eq rest c
      have hlt2 : wr.rangeLeft b W1.heap.size = cnt := HRG.out.left_eq
      have HLT2 := Aside0.mk hlt2
      have HLT := Aside0.mk hlt
      clear hrg1 hg1 hsg hlx hat hlt2 hlt HZR HB
      by_cases hq : c.data.toList.isPrefixOf rest.data.toList = true
      · rw [hq] at hpre
        have HPRE := Aside0.mk hpre
        have hh := HH.out
        rw [signOf_hit HSG.out hq] at hh
        simp only [Option.some.injEq, Prod.mk.injEq] at hh
        obtain ⟨rfl, rfl, rfl, rfl, rfl, rfl⟩ := hh
        clear hpre hq
        go_wp2_with fail
        with_reducible refine (tok_source_from.calls a0 (p : Int) rest _ HF.out).mono ?_
        rintro e W2 ⟨rfl, hb⟩
        have HZ2 : Aside0 (W2.heap[w.heap.size]? = some (.cells Z 31 (0, 0))) := ⟨(hb.block w.heap.size (by omega)).trans HZ1.out⟩
        have HB2 : Aside0 (Below w.heap.size w W2) := ⟨below_step HB1.out hb⟩
        clear hb
        go_wp2_with fail
        with_reducible refine (strings_HasPrefix.calls rest c true _ HPRE.out).mono ?_
        rintro e W3 ⟨rfl, ⟨nd, rfl⟩⟩
        have HZ3 : Aside0 ((W2.drewN nd).heap[w.heap.size]? = some (.cells Z 31 (0, 0))) := HZ2
        have HB3 : Aside0 (Below w.heap.size w (W2.drewN nd)) := ⟨pw_below_drewN HB2.out nd⟩
        generalize W2.drewN nd = W3 at HZ3 HB3 ⊢
        have hcz : (p : Int) + (c.size : Int) < 9223372036854775808 := by omega
        go_wp2_with (refine wpList_store_row rfl 31 (.tmp 4) (.tmp 23) rfl w.heap.size #[.int .i64 x, .int .i64 p, .int .i64 0, .string ⟨#[]⟩] rfl rfl 31 _ HZ3.out tok_info (by rw [hzs]; rfl) (tok_one _ _ _ _) ?_)
        refine bodyPost_ret (v := .tuple #[.agg #[.int .i64 x, .int .i64 p, .int .i64 0, .string ⟨#[]⟩], .int .i64 (p + c.size), .bool true]) ?_ rfl ⟨rfl, below_setRow HB3.out (Nat.le_refl _) _⟩
        exact results_ctt (fn := Tryz.f18) (p := 4) (u := 5) (v := 6) (ty := 31) rfl _ _ w.heap.size 31 _ (0, 0) _ rfl (setRow_heap W3 w.heap.size _ _ 31 (0, 0) HZ3.out) Tryz.underlying31 rfl tok_info
      · have hq' : c.data.toList.isPrefixOf rest.data.toList = false := Bool.eq_false_iff.2 hq
        rw [hq'] at hpre
        have HPRE := Aside0.mk hpre
        have HQ := Aside0.mk hq'
        clear hpre hq hq'
        have hsz1 : w1.heap.size = wr.heap.size := hs1'
        have HHEN := Aside0.mk hen
        go_wp2_with fail
        with_reducible refine (tok_source_from.calls a0 (p : Int) rest _ HF.out).mono ?_
        rintro e W2 ⟨rfl, hb⟩
        have HZ2 : Aside0 (W2.heap[w.heap.size]? = some (.cells Z 31 (0, 0))) := ⟨(hb.block w.heap.size (by omega)).trans HZ1.out⟩
        have HB2 : Aside0 (Below w.heap.size w W2) := ⟨below_step HB1.out hb⟩
        have HRG2 := Aside0.mk (ranges_below HRG1.out hb)
        have hs2 : w.heap.size + 1 ≤ W2.heap.size := by have := hb.size; omega
        clear hb
        go_wp2_with fail
        with_reducible refine (strings_HasPrefix.calls rest c false _ HPRE.out).mono ?_
        rintro e W3 ⟨rfl, ⟨nd, rfl⟩⟩
        have HZ3 : Aside0 ((W2.drewN nd).heap[w.heap.size]? = some (.cells Z 31 (0, 0))) := HZ2
        have HB3 : Aside0 (Below w.heap.size w (W2.drewN nd)) := ⟨pw_below_drewN HB2.out nd⟩
        have HRG3 : Aside0 ((W2.drewN nd).ranges (H := Unit) Tryz.prog 3 (plainElem Tryz.prog 9) b W1.heap.size 6 signMap (fun z => left z && !z.sameKey (.int .i64 x)) cnt1) := HRG2
        have hs3 : w.heap.size + 1 ≤ (W2.drewN nd).heap.size := hs2
        generalize W2.drewN nd = W3 at HZ3 HB3 HRG3 hs3 ⊢
        go_wp2
        go_roundw
        case rel =>
          refine ⟨_, cnt1, HRG3, HB3, HZ3, hs3, ⟨fun kl hk => HLE.out kl (by simp only [Bool.and_eq_true] at hk; exact hk.1)⟩, ⟨fun x' s' hs' hl' => ?_⟩⟩
          simp only [Bool.and_eq_false_iff, Bool.not_eq_false'] at hl'
          rcases hl' with hl' | hl'
          · exact HNO.out x' s' hs' hl'
          · have hx : x' = x := by simpa [Lit.sameKey] using hl'
            subst hx
            have e1 := sign_same hs' HSG.out
            rw [e1]
            exact HQ.out
        case measure => rw [HRG3.out.left_eq, HLT2.out]; exact HLT.out
end Go.Proofs.YtfdikkdbmlcjiaaGreatDoor.M
end
section
/- Laid by this session's program hbprint.py out of the translation: the function hornbook/lex.Word and its contract. -/
namespace Go.Proofs.YtfdikkdbmlcjiaaGreatDoor.M
open Go.RowKit Go.Proofs.YtfdikkdbmlcjiaaGreatDoorW.PrintWords Go.Proofs.YtfdikkdbmlcjiaaGreatDoorW.PrintLast Go.Proofs.YtfdikkdbmlcjiaaGreatDoorW.PrintMore
attribute [local go_sem] max2_int min2_int max_two min_two max_three min_three max_four min_four
set_option linter.unusedVariables false
set_option linter.unusedSimpArgs false
def lex_Word.l0 : Nat → ByteArray → Int → Int → Option (ByteArray × Int)
  | 0, _, _, _ => none
  | k + 1, x0, x6, x7 => if x7 < (x0.size : Int) then (if 0 ≤ x7 then ((lex_Class.f k (wrap64 (bt x0 x7))).bind fun t108 => (if t108 = 0 then (lex_Word.l0 k x0 x6 (wrap64 (x7 + 1))) else (if 0 ≤ x6 then (if x6 ≤ x7 then (if x7 ≤ (x0.size : Int) then (some (x0.extract (x6 : Int).toNat (x7 : Int).toNat, x7)) else (none)) else (none)) else (none)))) else (none)) else (if 0 ≤ x6 then (if x6 ≤ x7 then (if x7 ≤ (x0.size : Int) then (some (x0.extract (x6 : Int).toNat (x7 : Int).toNat, x7)) else (none)) else (none)) else (none))
def lex_Word.f (k : Nat) (a0 : ByteArray) (a1 : Int) : Option (ByteArray × Int) := (lex_place.f a0 a1).bind fun t107 => (lex_Word.l0 k a0 t107 t107)
theorem lex_Word.mono_l : ∀ k, (∀ y0 y1 y2, LeO (lex_Word.l0 k y0 y1 y2) (lex_Word.l0 (k + 1) y0 y1 y2))
  | 0 => fun _ _ _ r h => by simp [lex_Word.l0] at h
  | k + 1 => by
    have ih0 := lex_Word.mono_l k
    · intro y0 y1 y2
      unfold lex_Word.l0
      repeat' first
      | (with_reducible exact ih0 _ _ _)
      | (with_reducible exact lex_Class.mono _ _)
      | (with_reducible exact LeO.refl _)
      | (with_reducible exact LeO.none _)
      | (with_reducible refine LeO.ite ?_ ?_)
      | (with_reducible refine LeO.bind ?_ (fun _ => ?_))
      | exact ih0 _ _ _
      | exact lex_Class.mono _ _
      | exact LeO.none _
      | refine LeO.ite ?_ ?_
      | refine LeO.bind ?_ (fun _ => ?_)
theorem lex_Word.mono : ∀ a0 a1 k, LeO (lex_Word.f k a0 a1) (lex_Word.f (k + 1) a0 a1) := by
  intro a0 a1 k
  have ih0 := lex_Word.mono_l k
  unfold lex_Word.f
  repeat' first
      | (with_reducible exact ih0 _ _ _)
      | (with_reducible exact lex_Class.mono _ _)
      | (with_reducible exact LeO.refl _)
      | (with_reducible exact LeO.none _)
      | (with_reducible refine LeO.ite ?_ ?_)
      | (with_reducible refine LeO.bind ?_ (fun _ => ?_))
      | exact ih0 _ _ _
      | exact lex_Class.mono _ _
      | exact LeO.none _
      | refine LeO.ite ?_ ?_
      | refine LeO.bind ?_ (fun _ => ?_)
set_option maxHeartbeats 8000000 in
set_option maxRecDepth 100000 in
theorem lex_Word.calls (k : Nat) (a0 : ByteArray) (a1 : Int) (r1 : ByteArray) (r2 : Int) (w : World) (h : lex_Word.f k a0 a1 = some (r1, r2)) :
    Calls Tryz.prog 19 #[.string a0, .int .i64 a1] w fun e w' => e = .returned (.tuple #[.string r1, .int .i64 r2]) ∧ Below w.heap.size w w' := by
  have HB := Aside0.mk (Below.refl w.heap.size w)
  have H : ((lex_place.f a0 a1).bind fun t107 => (lex_Word.l0 k a0 t107 t107)) = some (r1, r2) := h
  clear h
  replace H := Option.bind_eq_some_iff.mp H
  obtain ⟨t107, A30, H⟩ := H
  replace H : (lex_Word.l0 k a0 t107 t107) = some (r1, r2) := H
  have A3 := Aside0.mk A30
  clear A30
  have H' := Aside0.mk H
  clear H
  go_enter Tryz.func19, Tryz.ntmps19
  go_wp2_with (first | ((with_reducible refine gate_callee (f := 34) rfl ?_); refine goesL_ (some 10) rfl rfl Tryz.func34 (by kernel_rfl) rfl #[.string a0, .int .i64 a1] rfl (by (try simp only [List.map_toArray, List.map_cons, List.map_nil]); first | done | rfl | (simp only [List.length_drop, List.length_take]; rfl)) ?_; (with_reducible refine (lex_place.calls a0 a1 t107 _ A3.out).mono ?_); rintro e w4 ⟨rfl, hb⟩; refine ⟨_, rfl, ?_⟩; have n0_ := Aside0.mk (below_step (by repeat (first | (with_reducible first | exact HB.out | apply below_alloc | apply pw_below_drewN | apply below_drew1) | exact HB.out)) hb); clear HB; have HB := n0_; clear n0_; (try clear hb); (try clear hb2); (try clear hk); (try clear hi)))
  go_loopg [7] k (fun kq v7 w' => ∃ (x7_1 : Int), v7 = .int .i64 x7_1 ∧ Aside0 (lex_Word.l0 kq a0 t107 x7_1 = some (r1, r2)) ∧ Aside0 (kq ≤ k) ∧ Aside0 (Below w.heap.size w w'))
  case atStart => exact ⟨(t107), (by first | rfl | (simp; done) | (simp [*]; done)), H', ⟨Nat.le_refl _⟩, ⟨by repeat (first | (with_reducible first | exact HB.out | apply below_alloc | apply pw_below_drewN | apply below_drew1) | exact HB.out)⟩⟩
  case round =>
    clear H'
    try clear c1
    try clear p2
    try clear c3
    obtain ⟨x7_1, rfl, HA, HK1, HB⟩ := hrel
    cases gk with
    | zero => exact absurd HA.out (by simp [lex_Word.l0])
    | succ k1 =>
      have H := HA.out
      clear HA
      simp only [lex_Word.l0] at H
      by_cases c5 : x7_1 < (a0.size : Int)
      · rw [if_pos c5] at H
        have c5b0 : decide (x7_1 < (a0.size : Int)) = true := decide_eq_true c5
        clear c5
        by_cases c6 : 0 ≤ x7_1
        · rw [if_pos c6] at H
          have c6b0 : decide (0 ≤ x7_1) = true := decide_eq_true c6
          clear c6
          replace H := Option.bind_eq_some_iff.mp H
          obtain ⟨t108, A80, H⟩ := H
          replace H : (if t108 = 0 then (lex_Word.l0 k1 a0 t107 (wrap64 (x7_1 + 1))) else (if 0 ≤ t107 then (if t107 ≤ x7_1 then (if x7_1 ≤ (a0.size : Int) then (some (a0.extract (t107 : Int).toNat (x7_1 : Int).toNat, x7_1)) else (none)) else (none)) else (none))) = some (r1, r2) := H
          have A8 := Aside0.mk A80
          clear A80
          by_cases c9 : t108 = 0
          · rw [if_pos c9] at H
            have c9b0 : (t108 == 0) = true := beq_iff_eq.mpr c9
            have c9b1 : (t108 != 0) = false := bne_eq_false_iff_eq.mpr c9
            clear c9
            have H' := Aside0.mk H
            clear H
            have p7 : 0 ≤ (x7_1 : Int) := of_decide_eq_true (by first | (with_reducible assumption) | assumption)
            have q7 : x7_1 < (a0.size : Int) := of_decide_eq_true (by first | (with_reducible assumption) | assumption)
            have hx7 := bt_at a0 x7_1
            replace p7 := eq_true p7
            replace q7 := eq_true q7
            go_wp2_with (first | (go_at_call 12; (with_reducible refine (lex_Class.calls k1 (wrap64 (bt a0 x7_1)) t108 _ A8.out).mono ?_); rintro e w10 ⟨rfl, hb⟩; have n0_ := Aside0.mk (below_step (by repeat (first | (with_reducible first | exact HB.out | apply below_alloc | apply pw_below_drewN | apply below_drew1) | exact HB.out)) hb); clear HB; have HB := n0_; clear n0_; (try clear hb); (try clear hb2); (try clear hk); (try clear hi)))
            go_roundg k1
            case measure => have := HK1.out; omega
            case rel => exact ⟨(wrap64 (x7_1 + 1)), (by first | rfl | (simp; done) | (simp [*]; done)), H', ⟨by have := HK1.out; omega⟩, ⟨by repeat (first | (with_reducible first | exact HB.out | apply below_alloc | apply pw_below_drewN | apply below_drew1) | exact HB.out)⟩⟩
          · rw [if_neg c9] at H
            have c9b0 : (t108 == 0) = false := beq_eq_false_iff_ne.mpr c9
            have c9b1 : (t108 != 0) = true := bne_iff_ne.mpr c9
            by_cases c11 : 0 ≤ t107
            · rw [if_pos c11] at H
              have c11b0 := eq_true c11
              have c11b1 : decide (0 ≤ t107) = true := decide_eq_true c11
              clear c11
              by_cases c12 : t107 ≤ x7_1
              · rw [if_pos c12] at H
                have c12b0 := eq_true c12
                have c12b1 : decide (t107 ≤ x7_1) = true := decide_eq_true c12
                clear c12
                by_cases c13 : x7_1 ≤ (a0.size : Int)
                · rw [if_pos c13] at H
                  have c13b0 := eq_true c13
                  have c13b1 : decide (x7_1 ≤ (a0.size : Int)) = true := decide_eq_true c13
                  clear c13
                  simp only [Option.some.injEq, Prod.mk.injEq] at H
                  obtain ⟨rfl, rfl⟩ := H
                  have p7 : 0 ≤ (x7_1 : Int) := of_decide_eq_true (by first | (with_reducible assumption) | assumption)
                  have q7 : x7_1 < (a0.size : Int) := of_decide_eq_true (by first | (with_reducible assumption) | assumption)
                  have hx7 := bt_at a0 x7_1
                  replace p7 := eq_true p7
                  replace q7 := eq_true q7
                  go_wp2_with (first | (go_at_call 12; (with_reducible refine (lex_Class.calls k1 (wrap64 (bt a0 x7_1)) t108 _ A8.out).mono ?_); rintro e w14 ⟨rfl, hb⟩; have n0_ := Aside0.mk (below_step (by repeat (first | (with_reducible first | exact HB.out | apply below_alloc | apply pw_below_drewN | apply below_drew1) | exact HB.out)) hb); clear HB; have HB := n0_; clear n0_; (try clear hb); (try clear hb2); (try clear hk); (try clear hi)))
                  go_ret2
                  exact ⟨by first | rfl | (simp [errW_none, errW_some] <;> rfl) | (simp [*, errW_none, errW_some] <;> rfl), by repeat (first | (with_reducible first | exact HB.out | apply below_alloc | apply pw_below_drewN | apply below_drew1) | exact HB.out)⟩
                · rw [if_neg c13] at H
                  exact absurd H (by simp)
              · rw [if_neg c12] at H
                exact absurd H (by simp)
            · rw [if_neg c11] at H
              exact absurd H (by simp)
        · rw [if_neg c6] at H
          exact absurd H (by simp)
      · rw [if_neg c5] at H
        have c5b0 : decide (x7_1 < (a0.size : Int)) = false := decide_eq_false c5
        clear c5
        by_cases c15 : 0 ≤ t107
        · rw [if_pos c15] at H
          have c15b0 := eq_true c15
          have c15b1 : decide (0 ≤ t107) = true := decide_eq_true c15
          clear c15
          by_cases c16 : t107 ≤ x7_1
          · rw [if_pos c16] at H
            have c16b0 := eq_true c16
            have c16b1 : decide (t107 ≤ x7_1) = true := decide_eq_true c16
            clear c16
            by_cases c17 : x7_1 ≤ (a0.size : Int)
            · rw [if_pos c17] at H
              have c17b0 := eq_true c17
              have c17b1 : decide (x7_1 ≤ (a0.size : Int)) = true := decide_eq_true c17
              clear c17
              simp only [Option.some.injEq, Prod.mk.injEq] at H
              obtain ⟨rfl, rfl⟩ := H
              go_wp2
              go_ret2
              exact ⟨by first | rfl | (simp [errW_none, errW_some] <;> rfl) | (simp [*, errW_none, errW_some] <;> rfl), by repeat (first | (with_reducible first | exact HB.out | apply below_alloc | apply pw_below_drewN | apply below_drew1) | exact HB.out)⟩
            · rw [if_neg c17] at H
              exact absurd H (by simp)
          · rw [if_neg c16] at H
            exact absurd H (by simp)
        · rw [if_neg c15] at H
          exact absurd H (by simp)
end Go.Proofs.YtfdikkdbmlcjiaaGreatDoor.M
end
section
namespace Go.Proofs.YtfdikkdbmlcjiaaGreatDoor.M
open Go.RowKit Go.Proofs.YtfdikkdbmlcjiaaGreatDoorW.PrintWords
set_option linter.unusedVariables false
/-- A written name's bytes. -/
def nameGo : List UInt8 → List UInt8
  | [] => []
  | c :: [] => [c]
  | c :: a :: [] => [c, a]
  | c :: a :: b :: r => if c == 35 && (hexVal a.toNat).isSome && (hexVal b.toNat).isSome then (((hexVal a.toNat).getD 0 * 16 + (hexVal b.toNat).getD 0).toNat.toUInt8) :: nameGo r else c :: nameGo (a :: b :: r)
def lex_Name.f (a0 : ByteArray) : Option ByteArray := if a0.size ≤ 140737488355328 then some ⟨(nameGo a0.data.toList).toArray⟩ else none
theorem nameGo_plain (c : UInt8) (l : List UInt8) (h : (c == 35) = false) : nameGo (c :: l) = c :: nameGo l := by
  match l with
  | [] => rfl
  | [a] => rfl
  | a :: b :: r => rw [nameGo, h]; rfl
theorem nameGo_short (c : UInt8) (l : List UInt8) (h : l.length < 2) : nameGo (c :: l) = c :: nameGo l := by
  match l, h with
  | [], _ => rfl
  | [a], _ => rfl
theorem nameGo_no (c a b : UInt8) (l : List UInt8) (h : ((hexVal a.toNat).isSome && (hexVal b.toNat).isSome) = false) : nameGo (c :: a :: b :: l) = c :: nameGo (a :: b :: l) := by
  rw [nameGo, Bool.and_assoc, h, Bool.and_false]; rfl
theorem nameGo_yes (a b : UInt8) (l : List UInt8) (x y : Int) (ha : hexVal a.toNat = some x) (hb : hexVal b.toNat = some y) : nameGo (35 :: a :: b :: l) = (x * 16 + y).toNat.toUInt8 :: nameGo l := by
  rw [nameGo, ha, hb]; rfl
theorem drop_cons (s : ByteArray) (i : Nat) (h : i < s.size) : s.data.toList.drop i = s[i] :: s.data.toList.drop (i + 1) := by
  rw [List.drop_eq_getElem_cons (by simpa using h)]; rfl
theorem hexVal_range (c : Int) (x : Int) (h : hexVal c = some x) : 0 ≤ x ∧ x ≤ 15 := by
  unfold hexVal at h
  split at h
  · simp at h; omega
  · split at h
    · simp at h; omega
    · split at h
      · simp at h; omega
      · cases h
theorem or_digits (x y : Int) (hx : 0 ≤ x ∧ x ≤ 15) (hy : 0 ≤ y ∧ y ≤ 15) : Go.bits .or .i64 (x * 16) y = x * 16 + y := by
  have : ∀ a b : Fin 16, Go.bits .or .i64 ((a.val : Int) * 16) (b.val : Int) = (a.val : Int) * 16 + (b.val : Int) := by decide +kernel
  have h := this ⟨x.toNat, by omega⟩ ⟨y.toNat, by omega⟩
  have e1 : ((x.toNat : Nat) : Int) = x := by omega
  have e2 : ((y.toNat : Nat) : Int) = y := by omega
  simpa [e1, e2] using h
set_option maxHeartbeats 1000000 in
set_option maxRecDepth 1000000 in
theorem lex_Name.calls (a0 : ByteArray) (r : ByteArray) (w : World) (h : lex_Name.f a0 = some r) :
    Calls Tryz.prog 20 #[.string a0] w fun e w' => e = .returned (.string r) ∧ Below w.heap.size w w' := by
  unfold lex_Name.f at h
  split at h
  case isFalse => cases h
  rename_i hl
  obtain rfl := Option.some.inj h
  clear h
  go_enter Tryz.func20, Tryz.ntmps20
  go_wp2
  go_loopw [4] (fun i wr => ∃ (k : Nat) (acc : List UInt8), k ≤ a0.size ∧ acc.length ≤ k ∧ i = .int .i64 k ∧ Aside0 (acc ++ nameGo (a0.data.toList.drop k) = nameGo a0.data.toList) ∧ IsBd w.heap.size w.heap.size acc wr ∧ Below w.heap.size w wr) (fun i wr => a0.size - (intOf i).toNat)
  case atStart =>
    refine ⟨0, [], Nat.zero_le _, Nat.le_refl _, rfl, ⟨rfl⟩, (Lib.IsBuilderF.of (Lib.fresh_isBuilder _ _ w)), (Below.refl _ w).alloc (Nat.le_refl _) _⟩
  case round =>
    obtain ⟨k, acc, hk, hal, rfl, HA, hI, hbw⟩ := hrel
    by_cases hlt : k < a0.size
    · have HD := Aside0.mk (drop_cons a0 k hlt)
      by_cases hc : (a0[k].toNat : Int) = 35
      · have t1 : ((a0[k].toNat : Int) == 35) = true := by simpa using hc
        have hc' : a0[k] = 35 := by
          have : a0[k].toNat = 35 := by omega
          exact UInt8.toNat_inj.1 (by simpa using this)
        have HC := Aside0.mk hc'
        clear hc hc'
        by_cases hi2 : k + 2 < a0.size
        · have hlt1 : k + 1 < a0.size := by omega
          have d1 := a0[k + 1].toNat_lt
          have d2 := a0[k + 2].toNat_lt
          have HD1 := Aside0.mk (drop_cons a0 (k + 1) hlt1)
          have HD2 := Aside0.mk (drop_cons a0 (k + 2) hi2)
          have c1 := digit_eq (Nat.le_refl 1) (a0[k + 1].toNat : Int) (by omega) (by omega)
          have c2 := digit_eq (Nat.le_refl 1) (a0[k + 2].toNat : Int) (by omega) (by omega)
          cases hv1 : hexVal (a0[k + 1].toNat : Int) with
          | none =>
            have hn := nameGo_no a0[k] a0[k + 1] a0[k + 2] (a0.data.toList.drop (k + 2 + 1)) (by rw [hv1]; rfl)
            rw [← HD2.out, ← HD1.out, ← HD.out] at hn
            have HN := Aside0.mk hn
            rw [hv1] at c1
            simp only [Option.getD_none, Option.isSome_none] at c1
            have C1 := Aside0.mk c1
            have C2 := Aside0.mk c2
            clear c1 c2 hn hv1
            go_wp2_with (go_at_call 38; with_reducible refine (hex_Digit.calls 1 _ _ _ _ C1.out).mono ?_)
            rintro e w1 ⟨rfl, hd⟩
            replace hI := hI.below hd
            replace hbw := below_then hbw hbw.size hd
            clear hd
            go_wp2_with (go_at_call 38; with_reducible refine (hex_Digit.calls 1 _ _ _ _ C2.out).mono ?_)
            rintro e w1 ⟨rfl, hd⟩
            replace hI := hI.below hd
            replace hbw := below_then hbw hbw.size hd
            clear hd
            go_wp2_with (go_at_call 39; with_reducible refine (WriteByte_k w.heap.size w.heap.size _ _ _ hI ?_ ?_).mono ?_)
            · rw [Lib.byteCells_length]; omega
            · exact hbw.size
            rintro e W2 ⟨rfl, h2, b2, k2⟩
            go_wp2
            go_roundw
            case rel => exact ⟨k + 1, acc ++ [a0[k]], by omega, by simp; omega, by go_num, ⟨by rw [← HA.out, HN.out]; simp⟩, by rw [IsBd, Lib.byteCells_append]; exact .inr h2, hbw.trans b2⟩
            case measure => simp [intOf]; omega
          | some x =>
            cases hv2 : hexVal (a0[k + 2].toNat : Int) with
            | none =>
              have hn := nameGo_no a0[k] a0[k + 1] a0[k + 2] (a0.data.toList.drop (k + 2 + 1)) (by rw [hv2]; exact Bool.and_false _)
              rw [← HD2.out, ← HD1.out, ← HD.out] at hn
              have HN := Aside0.mk hn
              rw [hv1] at c1
              rw [hv2] at c2
              simp only [Option.getD_none, Option.isSome_none] at c2
              simp only [Option.getD_some, Option.isSome_some] at c1
              have C1 := Aside0.mk c1
              have C2 := Aside0.mk c2
              clear c1 c2 hn hv1 hv2
              go_wp2_with (go_at_call 38; with_reducible refine (hex_Digit.calls 1 _ _ _ _ C1.out).mono ?_)
              rintro e w1 ⟨rfl, hd⟩
              replace hI := hI.below hd
              replace hbw := below_then hbw hbw.size hd
              clear hd
              go_wp2_with (go_at_call 38; with_reducible refine (hex_Digit.calls 1 _ _ _ _ C2.out).mono ?_)
              rintro e w1 ⟨rfl, hd⟩
              replace hI := hI.below hd
              replace hbw := below_then hbw hbw.size hd
              clear hd
              go_wp2_with (go_at_call 39; with_reducible refine (WriteByte_k w.heap.size w.heap.size _ _ _ hI ?_ ?_).mono ?_)
              · rw [Lib.byteCells_length]; omega
              · exact hbw.size
              rintro e W2 ⟨rfl, h2, b2, k2⟩
              go_wp2
              go_roundw
              case rel => exact ⟨k + 1, acc ++ [a0[k]], by omega, by simp; omega, by go_num, ⟨by rw [← HA.out, HN.out]; simp⟩, by rw [IsBd, Lib.byteCells_append]; exact .inr h2, hbw.trans b2⟩
              case measure => simp [intOf]; omega
            | some y =>
              have hn := nameGo_yes a0[k + 1] a0[k + 2] (a0.data.toList.drop (k + 2 + 1)) x y hv1 hv2
              rw [← HD2.out, ← HD1.out, ← HC.out, ← HD.out] at hn
              have HN := Aside0.mk hn
              have rx := hexVal_range _ _ hv1
              have ry := hexVal_range _ _ hv2
              have ho := or_digits x y rx ry
              rw [hv1] at c1
              rw [hv2] at c2
              simp only [Option.getD_some, Option.isSome_some] at c1 c2
              have C1 := Aside0.mk c1
              have C2 := Aside0.mk c2
              clear c1 c2 hn hv1 hv2
              go_wp2_with (go_at_call 38; with_reducible refine (hex_Digit.calls 1 _ _ _ _ C1.out).mono ?_)
              rintro e w1 ⟨rfl, hd⟩
              replace hI := hI.below hd
              replace hbw := below_then hbw hbw.size hd
              clear hd
              go_wp2_with (go_at_call 38; with_reducible refine (hex_Digit.calls 1 _ _ _ _ C2.out).mono ?_)
              rintro e w1 ⟨rfl, hd⟩
              replace hI := hI.below hd
              replace hbw := below_then hbw hbw.size hd
              clear hd
              go_wp2_with (go_at_call 39; with_reducible refine (WriteByte_k w.heap.size w.heap.size _ _ _ hI ?_ ?_).mono ?_)
              · rw [Lib.byteCells_length]; omega
              · exact hbw.size
              rintro e W2 ⟨rfl, h2, b2, k2⟩
              go_wp2
              go_roundw
              case rel =>
                refine ⟨k + 3, acc ++ [(x * 16 + y).toNat.toUInt8], by omega, by simp; omega, by go_num, ⟨by rw [← HA.out, HN.out]; simp⟩, ?_, hbw.trans b2⟩
                rw [IsBd, Lib.byteCells_append]
                have e8 : Lib.byteCells [(x * 16 + y).toNat.toUInt8] = [.int .u8 (x * 16 + y)] := by
                  simp [Lib.byteCells]; omega
                rw [e8]
                exact .inr h2
              case measure => simp [intOf]; omega
        · have hn := nameGo_short a0[k] (a0.data.toList.drop (k + 1)) (by rw [List.length_drop, Array.length_toList]; have : a0.data.size = a0.size := rfl; omega)
          rw [← HD.out] at hn
          have HN := Aside0.mk hn
          clear hn
          go_wp2_with (go_at_call 39; with_reducible refine (WriteByte_k w.heap.size w.heap.size _ _ _ hI ?_ ?_).mono ?_)
          · rw [Lib.byteCells_length]; omega
          · exact hbw.size
          rintro e W2 ⟨rfl, h2, b2, k2⟩
          go_wp2
          go_roundw
          case rel => exact ⟨k + 1, acc ++ [a0[k]], by omega, by simp; omega, by go_num, ⟨by rw [← HA.out, HN.out]; simp⟩, by rw [IsBd, Lib.byteCells_append]; exact .inr h2, hbw.trans b2⟩
          case measure => simp [intOf]; omega
      · have t1 : ((a0[k].toNat : Int) == 35) = false := by simpa using hc
        have hn := nameGo_plain a0[k] (a0.data.toList.drop (k + 1)) (by
          rw [beq_eq_false_iff_ne]; intro e; apply hc; rw [e]; rfl)
        rw [← HD.out] at hn
        have HN := Aside0.mk hn
        clear hn hc
        go_wp2_with (go_at_call 39; with_reducible refine (WriteByte_k w.heap.size w.heap.size _ _ _ hI ?_ ?_).mono ?_)
        · rw [Lib.byteCells_length]; omega
        · exact hbw.size
        rintro e W2 ⟨rfl, h2, b2, k2⟩
        go_wp2
        go_roundw
        case rel => exact ⟨k + 1, acc ++ [a0[k]], by omega, by simp; omega, by go_num, ⟨by rw [← HA.out, HN.out]; simp⟩, by rw [IsBd, Lib.byteCells_append]; exact .inr h2, hbw.trans b2⟩
        case measure => simp [intOf]; omega
    · go_wp2_with (go_at_call 31; refine (Tryz.Builder_String_any_k w.heap.size w.heap.size _ _ hI hbw.size).mono ?_)
      rintro e W1 ⟨rfl, _, b1, _⟩
      go_wp2
      go_ret
      have ha := HA.out
      rw [List.drop_of_length_le (by simp; omega)] at ha
      rw [← ha]
      simp only [nameGo, List.append_nil]
      exact ⟨rfl, hbw.trans b1⟩
end Go.Proofs.YtfdikkdbmlcjiaaGreatDoor.M
end
section
namespace Go.Proofs.YtfdikkdbmlcjiaaGreatDoor.M
open Go.RowKit Go.Proofs.YtfdikkdbmlcjiaaGreatDoorW.PrintWords
set_option linter.unusedVariables false
def strings_Cut.f (a0 a1 : ByteArray) : Option (ByteArray × ByteArray × Bool) := if a0.size < 4294967281 then some (⟨(Lib.cut a0.data.toList a1.data.toList).1.toArray⟩, ⟨(Lib.cut a0.data.toList a1.data.toList).2.1.toArray⟩, (Lib.cut a0.data.toList a1.data.toList).2.2) else none
theorem strings_Cut.calls (a0 a1 : ByteArray) (r1 r2 : ByteArray) (r3 : Bool) (w : World) (hG : GW w) (h : strings_Cut.f a0 a1 = some (r1, r2, r3)) :
    Calls Tryz.prog 40 #[.string a0, .string a1] w fun e w' => e = .returned (.tuple #[.string r1, .string r2, .bool r3]) ∧ Below w.heap.size w w' := by
  unfold strings_Cut.f at h
  split at h
  case isFalse => cases h
  rename_i hb
  have h' := Option.some.inj h
  simp only [Prod.mk.injEq] at h'
  obtain ⟨rfl, rfl, rfl⟩ := h'
  obtain ⟨m, hm⟩ := hG.max
  refine (Tryz.strings_Cut a0 a1 m w hb hm).mono ?_
  rintro e w' ⟨rfl, n, rfl⟩
  exact ⟨rfl, pw_below_drewN (Below.refl _ _) n⟩
end Go.Proofs.YtfdikkdbmlcjiaaGreatDoor.M
end
