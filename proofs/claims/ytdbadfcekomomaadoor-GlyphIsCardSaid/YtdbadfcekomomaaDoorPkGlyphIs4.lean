/- Of any name and number the values of the name, the name of the number, and all names are what the document says. -/
/- Packed by this session's program hbpack.py out of this claim's own texts (Ge0, Pg, PureGlyphIs, LawGlyphIs): the same declarations, without those that the claim does not use. -/
import Derived.Test.YtdbadfcekomomaaDoorPkGlyphIs3
import Derived.WalkKit
import Derived.ProofKit
import Derived.OpenShut
import Derived.ShutString
import Derived.ChangeOld
import Derived.Below
import Derived.SizedLaws
import Derived.LaidMore
import Derived.Lay
import Derived.Stop.Joined
import Derived.SevenTiedAt
import Derived.Test.YtdbadfcekomomaaDoorRows
import Derived.Test.YtdbadfcekomomaaDoorCards
import Derived.Test.YtdbadfcekomomaaDoorTie
section
namespace Go.Proofs.YtdbadfcekomomaaDoor.M
open Go.RowKit Go.Proofs.YtdbadfcekomomaaDoorW.PrintWords
set_option linter.unusedVariables false
def fieldsK (k : Nat) : Option (ByteArray × List ByteArray) := (glyph_list.f k).bind fun t => (strings_Fields.f t).bind fun F => some (t, F)
def goodK (k : Nat) : Bool := match fieldsK k with
 | some p => goodF p.1 p.2
 | none => false
set_option maxRecDepth 100000 in
theorem goodK_at : goodK 500 = true := by decide +kernel
theorem glyphs_are : ∃ T F, (∀ k, 500 ≤ k → glyph_list.f k = some T) ∧ strings_Fields.f T = some F ∧ Glyphs T F ∧ fieldsK 500 = some (T, F) := by
 have h := goodK_at
 unfold goodK at h
 split at h
 case h_2 => cases h
 rename_i p hp
 have hp' := hp
 unfold fieldsK at hp
 obtain ⟨T, hT, hp⟩ := Option.bind_eq_some_iff.1 hp
 obtain ⟨F, hF, hp⟩ := Option.bind_eq_some_iff.1 hp
 obtain rfl := Option.some.inj hp
 exact ⟨T, F, fun k hk => le_rounds (g := fun k => glyph_list.f k) (fun k => glyph_list.mono k) hT hk, hF, Glyphs.of h, hp'⟩
end Go.Proofs.YtdbadfcekomomaaDoor.M
end
section
namespace Go.Proofs.YtdbadfcekomomaaDoor.M
open Go.RowKit Go.Proofs.YtdbadfcekomomaaDoorW.PrintWords
set_option maxRecDepth 100000 in
theorem awake14_at : hornbooklaw14_awake.f 500 = some true := by decide +kernel
theorem awake14 {k : Nat} (hk : 500 ≤ k) : hornbooklaw14_awake.f k = some true := le_rounds (g := fun k => hornbooklaw14_awake.f k) (fun k => hornbooklaw14_awake.mono k) awake14_at hk
end Go.Proofs.YtdbadfcekomomaaDoor.M
end
section
namespace Go.Proofs.YtdbadfcekomomaaDoor.M
open Go.RowKit Go.Proofs.YtdbadfcekomomaaDoorW.PrintWords
set_option linter.unusedVariables false
abbrev Ent := S46
theorem mid_size {T : ByteArray} {p g s : List UInt8} (h : T.data.toList = p ++ (g ++ s)) : T.size = p.length + (g.length + s.length) := by rw [size_list, h, List.length_append, List.length_append]
theorem bt_midG {T : ByteArray} {p s : List UInt8} {c : UInt8} (h : T.data.toList = p ++ c :: s) {i : Nat} (hi : i = p.length) : bt T (i : Int) = (c.toNat : Int) := by
 have hs : i < T.size := by rw [size_list, h, List.length_append, List.length_cons]; omega
 rw [bt_get T i hs]
 congr 2
 subst hi
 simp [h]
theorem ext_midG {T : ByteArray} {p g s : List UInt8} (h : T.data.toList = p ++ (g ++ s)) {i j : Nat} (hi : i = p.length) (hj : j = p.length + g.length) : T.extract i j = ⟨g.toArray⟩ := by
 rw [ext_mid, h, hi, hj, List.drop_left, show p.length + g.length - p.length = g.length by omega, List.take_left]
theorem wrap_next (i : Nat) (hi : i < 1000000000) : wrap64 ((i : Int) + 1) = ((i + 1 : Nat) : Int) := by rw [wrap_small (by omega) (by omega)]; omega
def entOf (f : ByteArray) : Ent := ⟨nmF f, valsF f⟩
structure FieldOk (f : ByteArray) : Prop where
 text : f.data.toList = (nmF f).data.toList ++ 61 :: (hxF f).data.toList
 nm : ∀ b ∈ (nmF f).data.toList, b ≠ 32 ∧ b ≠ 61
 hx : ∀ b ∈ (hxF f).data.toList, b ≠ 32 ∧ b ≠ 61
 vals : ∀ k, 300 ≤ k → hornbookref14_values.f k (hxF f) = some (valsF f)
 len : (valsF f).length < 100
 ne : (nmF f).toList ≠ []
def fieldOk (f : ByteArray) : Bool := decide (f.data.toList = (nmF f).data.toList ++ 61 :: (hxF f).data.toList) && ((nmF f).data.toList.all fun b => b != 32 && b != 61) && ((hxF f).data.toList.all fun b => b != 32 && b != 61) && decide (hornbookref14_values.f 300 (hxF f) = some (valsF f)) && decide ((valsF f).length < 100) && !(nmF f).data.toList.isEmpty
theorem FieldOk.of {f : ByteArray} (h : fieldOk f = true) : FieldOk f := by
 simp only [fieldOk, Bool.and_eq_true, decide_eq_true_eq] at h
 obtain ⟨⟨⟨⟨⟨h1, h2⟩, h3⟩, h4⟩, h5⟩, h6⟩ := h
 refine ⟨h1, fun b hb => ?_, fun b hb => ?_, fun k hk => le_rounds (g := fun k => hornbookref14_values.f k (hxF f)) (fun k => hornbookref14_values.mono _ k) h4 hk, h5, fun e => ?_⟩
 ·have := List.all_eq_true.1 h2 b hb
  simpa using this
 ·have := List.all_eq_true.1 h3 b hb
  simpa using this
 ·rw [toList_data] at e
  rw [e] at h6
  cases h6
theorem body_cons {f : ByteArray} {fs : List ByteArray} (ho : FieldOk f) : bodyOf (rawF (f :: fs)) = (nmF f).data.toList ++ (61 :: ((hxF f).data.toList ++ 32 :: bodyOf (rawF fs))) := by
 show f.data.toList ++ 32 :: bodyOf (rawF fs) = _
 rw [ho.text, List.append_assoc, List.cons_append]
theorem ne_eq {b : UInt8} (h : b ≠ 32 ∧ b ≠ 61) : ¬ ((b.toNat : Int) = 61) := fun e => h.2 (UInt8.toNat.inj (by show b.toNat = 61; omega))
theorem ne_bl {b : UInt8} (h : b ≠ 32 ∧ b ≠ 61) : ¬ ((b.toNat : Int) = 32) := fun e => h.1 (UInt8.toNat.inj (by show b.toNat = 32; omega))
theorem uni_skip (a T : ByteArray) (hT : T.size < 1000000) : ∀ (g p s : List UInt8) (from_ eq : Int) (i k : Nat), T.data.toList = p ++ (g ++ s) → i = p.length → (∀ b ∈ g, b ≠ 32 ∧ b ≠ 61) →
  hornbookref14_Uni.l0 (k + 2 * g.length) a T from_ eq i = hornbookref14_Uni.l0 k a T from_ eq ((i + g.length : Nat) : Int)
 | [], p, s, from_, eq, i, k, h, hi, hg => by rfl
 | c :: g, p, s, from_, eq, i, k, h, hi, hg => by
  have hz := mid_size h
  rw [List.length_cons] at hz
  have hb := bt_midG (s := g ++ s) h hi
  have hc := hg c List.mem_cons_self
  have ih := uni_skip a T hT g (p ++ [c]) s from_ eq (i + 1) k (by rw [h]; simp) (by rw [List.length_append, ← hi]; rfl) (fun x hx => hg x (List.mem_cons_of_mem _ hx))
  rw [List.length_cons, show k + 2 * (g.length + 1) = k + 2 * g.length + 1 + 1 by omega, hornbookref14_Uni.l0, if_pos (by omega), if_pos (by omega), hb, if_neg (ne_eq hc), hornbookref14_Uni.j1, if_pos (by omega), if_pos (by omega), hb, if_neg (ne_bl hc), wrap_next i (by omega), ih, show i + 1 + g.length = i + (g.length + 1) by omega]
theorem uni_field (a T : ByteArray) (hT : T.size < 1000000) {f : ByteArray} {fs : List ByteArray} (ho : FieldOk f) (p : List UInt8) (eq : Int) (i k : Nat) (h : T.data.toList = p ++ bodyOf (rawF (f :: fs))) (hi : i = p.length) (hk : 300 ≤ k) :
  hornbookref14_Uni.l0 (k + 2 * (f.size + 1)) a T i eq i = if (nmF f).toList = a.toList then some (valsF f, true) else hornbookref14_Uni.l0 k a T ((i + (f.size + 1) : Nat) : Int) ((i + (nmF f).size : Nat) : Int) ((i + (f.size + 1) : Nat) : Int) := by
 have hfs : f.size = (nmF f).size + (1 + (hxF f).size) := by rw [size_list, ho.text, List.length_append, List.length_cons, ← size_list, ← size_list]; omega
 rw [body_cons ho] at h
 have hz := mid_size h
 rw [List.length_cons, List.length_append, List.length_cons, ← size_list, ← size_list] at hz
 have h1 : T.data.toList = (p ++ (nmF f).data.toList) ++ 61 :: ((hxF f).data.toList ++ 32 :: bodyOf (rawF fs)) := by rw [h, List.append_assoc]
 have h2 : T.data.toList = (p ++ (nmF f).data.toList ++ [61]) ++ ((hxF f).data.toList ++ 32 :: bodyOf (rawF fs)) := by rw [h1]; simp
 have h3 : T.data.toList = (p ++ (nmF f).data.toList ++ [61] ++ (hxF f).data.toList) ++ 32 :: bodyOf (rawF fs) := by rw [h2]; simp
 have n1 : (p ++ (nmF f).data.toList).length = i + (nmF f).size := by rw [List.length_append, hi]; rfl
 have n2 : (p ++ (nmF f).data.toList ++ [61]).length = i + (nmF f).size + 1 := by rw [List.length_append, n1]; rfl
 have n3 : (p ++ (nmF f).data.toList ++ [61] ++ (hxF f).data.toList).length = i + (nmF f).size + 1 + (hxF f).size := by rw [List.length_append, n2]; rfl
 have b1 : bt T ((i + (nmF f).size : Nat) : Int) = 61 := bt_midG h1 n1.symm
 have b3 : bt T ((i + (nmF f).size + 1 + (hxF f).size : Nat) : Int) = 32 := bt_midG h3 n3.symm
 have e1 : T.extract i (i + (nmF f).size) = nmF f := by rw [ext_midG h hi (congrArg (· + (nmF f).size) hi)]
 have e2 : T.extract (i + (nmF f).size + 1) (i + (nmF f).size + 1 + (hxF f).size) = hxF f := by rw [ext_midG h2 n2.symm (congrArg (· + (hxF f).size) n2.symm)]
 have s1' := uni_skip a T hT (nmF f).data.toList p _ i eq i (k + 2 + 2 * (hxF f).size + 2) h hi ho.nm
 have s2 := uni_skip a T hT (hxF f).data.toList _ _ i ((i + (nmF f).size : Nat) : Int) (i + (nmF f).size + 1) (k + 2) h2 n2.symm ho.hx
 rw [← size_list] at s1' s2
 rw [show k + 2 * (f.size + 1) = k + 2 + 2 * (hxF f).size + 2 + 2 * (nmF f).size by omega, s1']
 rw [hornbookref14_Uni.l0, if_pos (by omega), if_pos (by omega), b1, if_pos rfl, hornbookref14_Uni.j1, if_pos (by omega), if_pos (by omega), b1, if_neg (by decide), wrap_next _ (by omega), s2]
 rw [hornbookref14_Uni.l0, if_pos (by omega), if_pos (by omega), b3, if_neg (by decide), hornbookref14_Uni.j1, if_pos (by omega), if_pos (by omega), b3, if_pos rfl, if_pos (by omega), if_pos (by omega), if_pos (by omega),
  Int.toNat_natCast, Int.toNat_natCast, e1]
 by_cases hn : (nmF f).toList = a.toList
 ·rw [if_pos hn, if_pos hn, wrap_next (i + (nmF f).size) (by omega), if_pos (by omega), if_pos (by omega), if_pos (by omega), Int.toNat_natCast, Int.toNat_natCast, e2, ho.vals k hk, Option.bind_some]
 ·rw [if_neg hn, if_neg hn, wrap_next _ (by omega), show i + (nmF f).size + 1 + (hxF f).size + 1 = i + (f.size + 1) by omega]
def findN (a : List UInt8) : List ByteArray → Option ByteArray
 | [] => none
 | f :: fs => if (nmF f).toList = a then some f else findN a fs
theorem uni_fields (a T : ByteArray) (hT : T.size < 1000000) : ∀ (fs : List ByteArray) (p : List UInt8) (eq : Int) (i k : Nat), (∀ f ∈ fs, FieldOk f) → T.data.toList = p ++ bodyOf (rawF fs) → i = p.length → 301 + 2 * (bodyOf (rawF fs)).length ≤ k →
  hornbookref14_Uni.l0 k a T i eq i = match findN a.toList fs with
   | some f => some (valsF f, true)
   | none => some ([], false)
 | [], p, eq, i, k, hf, h, hi, hk => by
  obtain ⟨k, rfl⟩ : ∃ m, k = m + 1 := ⟨k - 1, by omega⟩
  have hz : T.size = p.length := by rw [size_list, h]; simp [rawF, bodyOf]
  rw [hornbookref14_Uni.l0, if_neg (by omega)]
  rfl
 | f :: fs, p, eq, i, k, hf, h, hi, hk => by
  have ho := hf f List.mem_cons_self
  have hlen : (bodyOf (rawF (f :: fs))).length = f.size + 1 + (bodyOf (rawF fs)).length := by
   show (f.data.toList ++ 32 :: bodyOf (rawF fs)).length = _
   rw [List.length_append, List.length_cons, ← size_list]; omega
  obtain ⟨k, rfl⟩ : ∃ m, k = m + 2 * (f.size + 1) := ⟨k - 2 * (f.size + 1), by omega⟩
  rw [uni_field a T hT ho p eq i k h hi (by omega), findN]
  by_cases hn : (nmF f).toList = a.toList
  ·rw [if_pos hn, if_pos hn]
  ·rw [if_neg hn, if_neg hn]
   have hstep := uni_fields a T hT fs (p ++ f.data.toList ++ [32]) ((i + (nmF f).size : Nat) : Int) (i + (f.size + 1)) k (fun x hx => hf x (List.mem_cons_of_mem _ hx)) (by rw [h]; show p ++ (f.data.toList ++ 32 :: bodyOf (rawF fs)) = _; simp) (by rw [List.length_append, List.length_append, hi, ← size_list]; rfl) (by omega)
   exact hstep
theorem all_skip (T : ByteArray) (hT : T.size < 1000000) (acc : List Ent) : ∀ (g p s : List UInt8) (from_ eq : Int) (i k : Nat), T.data.toList = p ++ (g ++ s) → i = p.length → (∀ b ∈ g, b ≠ 32 ∧ b ≠ 61) →
  hornbookref14_All.l0 (k + g.length) T acc from_ eq i = hornbookref14_All.l0 k T acc from_ eq ((i + g.length : Nat) : Int)
 | [], p, s, from_, eq, i, k, h, hi, hg => by rfl
 | c :: g, p, s, from_, eq, i, k, h, hi, hg => by
  have hz := mid_size h
  rw [List.length_cons] at hz
  have hb := bt_midG (s := g ++ s) h hi
  have hc := hg c List.mem_cons_self
  have ih := all_skip T hT acc g (p ++ [c]) s from_ eq (i + 1) k (by rw [h]; simp) (by rw [List.length_append, ← hi]; rfl) (fun x hx => hg x (List.mem_cons_of_mem _ hx))
  rw [List.length_cons, show k + (g.length + 1) = k + g.length + 1 by omega, hornbookref14_All.l0, if_pos (by omega), if_pos (by omega), hb, if_neg (ne_eq hc), if_neg (ne_bl hc), wrap_next i (by omega), ih, show i + 1 + g.length = i + (g.length + 1) by omega]
theorem all_field (T : ByteArray) (hT : T.size < 1000000) (acc : List Ent) (hacc : acc.length < 1000) {f : ByteArray} {fs : List ByteArray} (ho : FieldOk f) (p : List UInt8) (eq : Int) (i k : Nat) (h : T.data.toList = p ++ bodyOf (rawF (f :: fs))) (hi : i = p.length) (hk : 300 ≤ k) :
  hornbookref14_All.l0 (k + (f.size + 1)) T acc i eq i = hornbookref14_All.l0 k T (acc ++ [entOf f]) ((i + (f.size + 1) : Nat) : Int) ((i + (nmF f).size : Nat) : Int) ((i + (f.size + 1) : Nat) : Int) := by
 have hfs : f.size = (nmF f).size + (1 + (hxF f).size) := by rw [size_list, ho.text, List.length_append, List.length_cons, ← size_list, ← size_list]; omega
 rw [body_cons ho] at h
 have hz := mid_size h
 rw [List.length_cons, List.length_append, List.length_cons, ← size_list, ← size_list] at hz
 have h1 : T.data.toList = (p ++ (nmF f).data.toList) ++ 61 :: ((hxF f).data.toList ++ 32 :: bodyOf (rawF fs)) := by rw [h, List.append_assoc]
 have h2 : T.data.toList = (p ++ (nmF f).data.toList ++ [61]) ++ ((hxF f).data.toList ++ 32 :: bodyOf (rawF fs)) := by rw [h1]; simp
 have h3 : T.data.toList = (p ++ (nmF f).data.toList ++ [61] ++ (hxF f).data.toList) ++ 32 :: bodyOf (rawF fs) := by rw [h2]; simp
 have n1 : (p ++ (nmF f).data.toList).length = i + (nmF f).size := by rw [List.length_append, hi]; rfl
 have n2 : (p ++ (nmF f).data.toList ++ [61]).length = i + (nmF f).size + 1 := by rw [List.length_append, n1]; rfl
 have n3 : (p ++ (nmF f).data.toList ++ [61] ++ (hxF f).data.toList).length = i + (nmF f).size + 1 + (hxF f).size := by rw [List.length_append, n2]; rfl
 have b1 : bt T ((i + (nmF f).size : Nat) : Int) = 61 := bt_midG h1 n1.symm
 have b3 : bt T ((i + (nmF f).size + 1 + (hxF f).size : Nat) : Int) = 32 := bt_midG h3 n3.symm
 have e1 : T.extract i (i + (nmF f).size) = nmF f := by rw [ext_midG h hi (congrArg (· + (nmF f).size) hi)]
 have e2 : T.extract (i + (nmF f).size + 1) (i + (nmF f).size + 1 + (hxF f).size) = hxF f := by rw [ext_midG h2 n2.symm (congrArg (· + (hxF f).size) n2.symm)]
 have s1' := all_skip T hT acc (nmF f).data.toList p _ i eq i (k + 1 + (hxF f).size + 1) h hi ho.nm
 have s2 := all_skip T hT acc (hxF f).data.toList _ _ i ((i + (nmF f).size : Nat) : Int) (i + (nmF f).size + 1) (k + 1) h2 n2.symm ho.hx
 rw [← size_list] at s1' s2
 rw [show k + (f.size + 1) = k + 1 + (hxF f).size + 1 + (nmF f).size by omega, s1']
 rw [hornbookref14_All.l0, if_pos (by omega), if_pos (by omega), b1, if_pos rfl, if_neg (by decide), wrap_next _ (by omega), s2]
 rw [hornbookref14_All.l0, if_pos (by omega), if_pos (by omega), b3, if_neg (by decide), if_pos rfl, if_pos (by omega), if_pos (by omega), if_pos (by omega), wrap_next (i + (nmF f).size) (by omega), if_pos (by omega), if_pos (by omega), if_pos (by omega),
  Int.toNat_natCast, Int.toNat_natCast, Int.toNat_natCast, Int.toNat_natCast, e1, e2, ho.vals k hk, Option.bind_some, if_pos (by omega), wrap_next _ (by omega), show i + (nmF f).size + 1 + (hxF f).size + 1 = i + (f.size + 1) by omega]
 rfl
theorem all_fields (T : ByteArray) (hT : T.size < 1000000) : ∀ (fs : List ByteArray) (acc : List Ent) (p : List UInt8) (eq : Int) (i k : Nat), acc.length + fs.length < 1000 → (∀ f ∈ fs, FieldOk f) → T.data.toList = p ++ bodyOf (rawF fs) → i = p.length → 301 + (bodyOf (rawF fs)).length ≤ k →
  hornbookref14_All.l0 k T acc i eq i = some (acc ++ fs.map entOf)
 | [], acc, p, eq, i, k, ha, hf, h, hi, hk => by
  obtain ⟨k, rfl⟩ : ∃ m, k = m + 1 := ⟨k - 1, by omega⟩
  have hz : T.size = p.length := by rw [size_list, h]; simp [rawF, bodyOf]
  rw [hornbookref14_All.l0, if_neg (by omega), List.map_nil, List.append_nil]
 | f :: fs, acc, p, eq, i, k, ha, hf, h, hi, hk => by
  have ho := hf f List.mem_cons_self
  have hlen : (bodyOf (rawF (f :: fs))).length = f.size + 1 + (bodyOf (rawF fs)).length := by
   show (f.data.toList ++ 32 :: bodyOf (rawF fs)).length = _
   rw [List.length_append, List.length_cons, ← size_list]; omega
  obtain ⟨k, rfl⟩ : ∃ m, k = m + (f.size + 1) := ⟨k - (f.size + 1), by omega⟩
  rw [List.length_cons] at ha
  rw [all_field T hT acc (by omega) ho p eq i k h hi (by omega)]
  have hstep := all_fields T hT fs (acc ++ [entOf f]) (p ++ f.data.toList ++ [32]) ((i + (nmF f).size : Nat) : Int) (i + (f.size + 1)) k (by rw [List.length_append]; show acc.length + 1 + _ < _; omega) (fun x hx => hf x (List.mem_cons_of_mem _ hx)) (by rw [h]; show p ++ (f.data.toList ++ 32 :: bodyOf (rawF fs)) = _; simp) (by rw [List.length_append, List.length_append, hi, ← size_list]; rfl) (by omega)
  rw [hstep, List.append_assoc]
  rfl
theorem ent_at {F : List ByteArray} {i : Nat} (h : i < F.length) : rd_T46 (F.map entOf) (i : Int) = entOf F[i] := by
 unfold rd_T46
 rw [Int.toNat_natCast, List.getD_eq_getElem?_getD, List.getElem?_map, List.getElem?_eq_getElem h]
 rfl
theorem refback_loop {F : List ByteArray} (hl : F.length < 1000) (r : Int) (d : Nat) : ∀ (i k : Nat), F.length - i = d → i ≤ F.length → d < k →
  hornbookref14_Back.l0 k r (F.map entOf) i = some (backIn r (F.drop i)) := by
 induction d with
 | zero =>
  intro i k hd hi hk
  obtain ⟨k, rfl⟩ : ∃ m, k = m + 1 := ⟨k - 1, by omega⟩
  rw [hornbookref14_Back.l0, if_neg (by rw [List.length_map]; omega), List.drop_eq_nil_of_le (by omega), backIn]
 | succ d ih =>
  intro i k hd hi hk
  obtain ⟨k, rfl⟩ : ∃ m, k = m + 1 := ⟨k - 1, by omega⟩
  have hlt : i < F.length := by omega
  rw [hornbookref14_Back.l0, if_pos (by rw [List.length_map]; omega), if_pos (by omega), ent_at hlt, wrap_next i (by omega), ih (i + 1) k (by omega) (by omega) (by omega), List.drop_eq_getElem_cons hlt, backIn]
  show (if ((valsF F[i]).length : Int) = 1 then (if 0 < ((valsF F[i]).length : Int) then (if rd (valsF F[i]) 0 = r then some (nmF F[i], true) else _) else none) else _) = _
  by_cases h1 : ((valsF F[i]).length : Int) = 1
  ·rw [if_pos h1, if_pos (by omega)]
   by_cases h2 : valsF F[i] = [r]
   ·rw [if_pos h2, if_pos ((one_rd h1).2 h2)]
   ·rw [if_neg h2, if_neg (fun e => h2 ((one_rd h1).1 e))]
  ·rw [if_neg h1, if_neg (fun e => h1 (by rw [e]; rfl))]
theorem refnames_loop {F : List ByteArray} (hl : F.length < 1000) (d : Nat) : ∀ (i k : Nat) (acc : List ByteArray), F.length - i = d → i ≤ F.length → d < k → acc.length + d < 8796093022208 →
  hornbookref14_Names.l0 k (F.map entOf) acc i = some (acc ++ (F.drop i).map nmF) := by
 induction d with
 | zero =>
  intro i k acc hd hi hk ha
  obtain ⟨k, rfl⟩ : ∃ m, k = m + 1 := ⟨k - 1, by omega⟩
  rw [hornbookref14_Names.l0, if_neg (by rw [List.length_map]; omega), List.drop_eq_nil_of_le (by omega), List.map_nil, List.append_nil]
 | succ d ih =>
  intro i k acc hd hi hk ha
  obtain ⟨k, rfl⟩ : ∃ m, k = m + 1 := ⟨k - 1, by omega⟩
  have hlt : i < F.length := by omega
  rw [hornbookref14_Names.l0, if_pos (by rw [List.length_map]; omega), if_pos (by omega), ent_at hlt, wrap_next i (by omega), if_pos (by omega), ih (i + 1) k _ (by omega) (by omega) (by omega) (by rw [List.length_append]; show acc.length + 1 + d < _; omega), List.drop_eq_getElem_cons hlt, List.map_cons, List.append_assoc]
  rfl
theorem same_loop {l : List Int} (hl : l.length < 1000000000) (d : Nat) : ∀ (i k : Nat), l.length - i = d → i ≤ l.length → d < k → hornbookref02_Same.l0 k l l i = some true := by
 induction d with
 | zero =>
  intro i k hd hi hk
  obtain ⟨k, rfl⟩ : ∃ m, k = m + 1 := ⟨k - 1, by omega⟩
  rw [hornbookref02_Same.l0, if_neg (by omega)]
 | succ d ih =>
  intro i k hd hi hk
  obtain ⟨k, rfl⟩ : ∃ m, k = m + 1 := ⟨k - 1, by omega⟩
  rw [hornbookref02_Same.l0, if_pos (by omega), if_pos (by omega), if_pos (by omega), if_pos rfl, wrap_next i (by omega), ih (i + 1) k (by omega) (by omega) (by omega)]
theorem pre_name : ∀ (a n h : List UInt8), (∀ b ∈ a, b ≠ 61) → (∀ b ∈ n, b ≠ 61) → ((a ++ [61]).isPrefixOf (n ++ 61 :: h) = true ↔ n = a)
 | [], [], h, _, _ => by simp [List.isPrefixOf]
 | [], c :: n, h, _, hn => by
  have : ¬ (61 = c) := fun e => hn c List.mem_cons_self e.symm
  simp [List.isPrefixOf, this]
 | c :: a, [], h, ha, _ => by
  have : ¬ (c = 61) := ha c List.mem_cons_self
  simp [List.isPrefixOf, this]
 | c :: a, e :: n, h, ha, hn => by
  have ih := pre_name a n h (fun x hx => ha x (List.mem_cons_of_mem _ hx)) (fun x hx => hn x (List.mem_cons_of_mem _ hx))
  rw [List.cons_append, List.cons_append, List.isPrefixOf, Bool.and_eq_true, ih, beq_iff_eq, List.cons_eq_cons]
  exact ⟨fun ⟨x, y⟩ => ⟨x.symm, y⟩, fun ⟨x, y⟩ => ⟨x.symm, y⟩⟩
theorem find_eq (a : ByteArray) (ha : ∀ b ∈ a.data.toList, b ≠ 32 ∧ b ≠ 61) : ∀ fs : List ByteArray, (∀ f ∈ fs, FieldOk f) →
  findF (a.data.toList ++ [61]) (rawF fs) = (findN a.toList fs).map fun f => (hxF f).data.toList
 | [], _ => rfl
 | f :: fs, hf => by
  have ho := hf f List.mem_cons_self
  have ih := find_eq a ha fs (fun x hx => hf x (List.mem_cons_of_mem _ hx))
  have hp := pre_name a.data.toList (nmF f).data.toList (hxF f).data.toList (fun b hb => (ha b hb).2) (fun b hb => (ho.nm b hb).2)
  show (if (a.data.toList ++ [61]).isPrefixOf f.data.toList = true then some (f.data.toList.drop (a.data.toList ++ [61]).length) else findF _ (rawF fs)) = _
  rw [ho.text, findN]
  by_cases hn : (nmF f).data.toList = a.data.toList
  ·rw [if_pos (hp.2 hn), if_pos (by rw [toList_data, toList_data]; exact hn), ← hn, show (nmF f).data.toList ++ 61 :: (hxF f).data.toList = ((nmF f).data.toList ++ [61]) ++ (hxF f).data.toList by simp, List.drop_left]
   rfl
  ·rw [if_neg (fun e => hn (hp.1 e)), if_neg (by rw [toList_data, toList_data]; exact hn), ih]
theorem find_none (a : List UInt8) : ∀ fs : List ByteArray, (∀ f ∈ fs, (nmF f).toList ≠ a) → findN a fs = none
 | [], _ => rfl
 | f :: fs, h => by rw [findN, if_neg (h f List.mem_cons_self), find_none a fs (fun x hx => h x (List.mem_cons_of_mem _ hx))]
theorem find_mem (a : List UInt8) : ∀ (fs : List ByteArray) (f : ByteArray), findN a fs = some f → f ∈ fs
 | [], f, h => by cases h
 | g :: fs, f, h => by
  rw [findN] at h
  split at h
  ·cases h; exact List.mem_cons_self
  ·exact List.mem_cons_of_mem _ (find_mem a fs f h)
theorem contains_yes (q : List UInt8) (h : ¬ ∀ b ∈ q, b ≠ 32 ∧ b ≠ 61) : Lib.containsAny q [32, 61] = true := by
 have : ∀ l : List UInt8, Lib.indexAny l [32, 61] = -1 → ∀ b ∈ l, b ≠ 32 ∧ b ≠ 61 := by
  intro l
  induction l with
  | nil => intro _ b hb; cases hb
  | cons c l ih =>
   intro hl
   rw [Lib.indexAny] at hl
   by_cases hc : ([32, 61] : List UInt8).contains c = true
   ·rw [if_pos hc] at hl; cases hl
   ·rw [if_neg hc] at hl
    have hge := Lib.indexAny_ge [32, 61] l
    by_cases hn : Lib.indexAny l [32, 61] = -1
    ·intro b hb
     rcases List.mem_cons.1 hb with rfl | hb
     ·simpa using hc
     ·exact ih hn b hb
    ·exfalso
     have : (Lib.indexAny l [32, 61] == -1) = false := by rw [beq_eq_false_iff_ne]; exact hn
     simp only [this, Bool.false_eq_true, if_false] at hl
     omega
 unfold Lib.containsAny
 by_cases hn : Lib.indexAny q [32, 61] = -1
 ·exact absurd (this q hn) h
 ·exact decide_eq_true (by have := Lib.indexAny_ge [32, 61] q; omega)
def refK : Bool := match hornbookref14_list.f, fieldsK 500 with
 | some R, some p => decide (R.data.toList = bodyOf (rawF p.2)) && decide (R.size < 9000) && p.2.all fieldOk
 | _, _ => false
set_option maxRecDepth 100000 in
theorem refK_at : refK = true := by decide +kernel
theorem names_l0 {F : List ByteArray} (hl : F.length < 1000) {u : List Int} {b : Bool} {n : ByteArray} {c : Bool} (hu : u.length < 1000) (d : Nat) : ∀ (i k : Nat), F.length - i = d → i ≤ F.length → d + 1002 ≤ k →
  hornbooklaw14_GlyphIs.l0 k true u b u b n c n c (F.map nmF) (F.map nmF) i = some true := by
 induction d with
 | zero =>
  intro i k hd hi hk
  obtain ⟨k, rfl⟩ : ∃ m, k = m + 1 := ⟨k - 1, by omega⟩
  have hs : hornbookref02_Same.f k u u = some true := by
   unfold hornbookref02_Same.f
   rw [if_pos rfl]
   exact same_loop (by omega) u.length 0 k (by omega) (by omega) (by omega)
  rw [hornbooklaw14_GlyphIs.l0, if_neg (by rw [List.length_map]; omega), if_pos rfl, hs, Option.bind_some, if_pos rfl]
  cases b <;> cases c <;> simp
 | succ d ih =>
  intro i k hd hi hk
  obtain ⟨k, rfl⟩ : ∃ m, k = m + 1 := ⟨k - 1, by omega⟩
  rw [hornbooklaw14_GlyphIs.l0, if_pos (by rw [List.length_map]; omega), if_pos (by omega), if_pos (by rw [List.length_map]; omega), if_pos rfl, wrap_next i (by omega), ih (i + 1) k (by omega) (by omega) (by omega)]
theorem uni_both {T R : ByteArray} {F : List ByteArray} (hG : Glyphs T F) (hT : ∀ k, 500 ≤ k → glyph_list.f k = some T) (hR : hornbookref14_list.f = some R) (hRF : R.data.toList = bodyOf (rawF F)) (hRs : R.size < 9000) (hok : ∀ f ∈ F, FieldOk f) (a : ByteArray) (ha : a.size ≤ 300) :
  ∃ u : List Int × Bool, glyph_Uni.f 20000 a = some u ∧ hornbookref14_Uni.f 20000 a = some u ∧ u.1.length < 1000 := by
 have hr : hornbookref14_Uni.f 20000 a = match findN a.toList F with
   | some f => some (valsF f, true)
   | none => some ([], false) := by
  unfold hornbookref14_Uni.f
  rw [hR, Option.bind_some]
  exact uni_fields a R (by omega) F [] 0 0 20000 hok (by rw [hRF]; rfl) rfl (by rw [← hRF, ← size_list]; omega)
 by_cases hb : a.toList ≠ [] ∧ ∀ b ∈ a.data.toList, b ≠ 32 ∧ b ≠ 61
 ·have hu := uni_eq2 (k := 19999) hG (hT 19999 (by decide)) a (by omega) hb.1 hb.2
  rw [find_eq a hb.2 F hok] at hu
  cases hf : findN a.toList F with
  | none => 
   rw [hf] at hu hr
   exact ⟨([], false), hu, hr, by decide⟩
  | some f =>
   rw [hf] at hu hr
   have hm := find_mem _ _ _ hf
   have ho := OkF.of (hG.ok f hm)
   refine ⟨(valsF f, true), ?_, hr, by have := (hok f hm).len; show (valsF f).length < 1000; omega⟩
   rw [hu]
   show (glyph_values.f ⟨(hxF f).data.toList.toArray⟩).bind _ = _
   rw [← ba_eta, ho.vals]
   rfl
 ·have hn : findN a.toList F = none := by
   refine find_none _ _ (fun f hf e => hb ?_)
   have ho := hok f hf
   refine ⟨by rw [← e]; exact ho.ne, fun b hb => ho.nm b ?_⟩
   rw [toList_data, toList_data] at e
   rw [e]; exact hb
  rw [hn] at hr
  refine ⟨([], false), ?_, hr, by decide⟩
  unfold glyph_Uni.f
  by_cases he : a.toList = []
  ·rw [if_pos he, glyph_Uni.j0, if_pos rfl]
  ·have hc : strings_ContainsAny.f a ⟨#[32, 61]⟩ = some true := by
    unfold strings_ContainsAny.f
    rw [if_pos ⟨by omega, by decide, .inr rfl, by decide⟩]
    exact congrArg some (contains_yes _ (fun h => hb ⟨he, h⟩))
   rw [if_neg he, hc, Option.bind_some, glyph_Uni.j0, if_pos rfl]
theorem GlyphIs : hornbooklaw14_GlyphIs.Pure := by
 intro a0 a1 _ _
 obtain ⟨T, F, hT, hF, hG, hK⟩ := glyphs_are
 have hA := refK_at
 unfold refK at hA
 rw [hK] at hA
 cases hR : hornbookref14_list.f with
 | none => rw [hR] at hA; cases hA
 | some R =>
 rw [hR] at hA
 simp only [Bool.and_eq_true, decide_eq_true_eq] at hA
 obtain ⟨⟨hRF, hRs⟩, hall⟩ := hA
 have hok : ∀ f ∈ F, FieldOk f := fun f hf => FieldOk.of (List.all_eq_true.1 hall f hf)
 have hlen := hG.len
 refine ⟨20000, ?_⟩
 unfold hornbooklaw14_GlyphIs.f
 rw [awake14 (by decide), Option.bind_some]
 by_cases hbig : (a0.size : Int) > 300
 ·rw [if_pos hbig]
 rw [if_neg hbig]
 obtain ⟨u, hu, hv, hul⟩ := uni_both hG hT hR hRF hRs hok a0 (by omega)
 have hall14 : hornbookref14_All.f 20000 = some (F.map entOf) := by
  unfold hornbookref14_All.f
  rw [hR, Option.bind_some]
  exact all_fields R (by omega) F [] [] 0 0 20000 (by simpa using hlen) hok (by rw [hRF]; rfl) rfl (by rw [← hRF, ← size_list]; omega)
 have hb : hornbookref14_Back.f 20000 a1 = some (backIn a1 F) := by
  unfold hornbookref14_Back.f
  rw [hall14, Option.bind_some]
  exact refback_loop hlen a1 F.length 0 20000 (by omega) (by omega) (by omega)
 have hn : hornbookref14_Names.f 20000 = some (F.map nmF) := by
  unfold hornbookref14_Names.f
  rw [hall14, Option.bind_some]
  exact refnames_loop hlen F.length 0 20000 [] (by omega) (by omega) (by omega) (by simp; omega)
 have hnm := names_eq (k := 20000) hG (by decide) (hT 20000 (by decide)) hF
 have hcnt : glyph_Count.f 20000 = some (((F.map nmF).length : Nat) : Int) := by
  unfold glyph_Count.f
  rw [hnm, Option.bind_some]
 rw [hu, Option.bind_some, hv, Option.bind_some, back_eq (k := 20000) hG (by decide) (hT 20000 (by decide)) hF a1, Option.bind_some, hb, Option.bind_some, hnm, Option.bind_some, hn, Option.bind_some, if_pos rfl, hcnt, Option.bind_some, bne_self_eq_false]
 rw [hornbooklaw14_GlyphIs.j0, if_neg (by decide)]
 exact names_l0 hlen hul F.length 0 19999 (by omega) (by omega) (by omega)
end Go.Proofs.YtdbadfcekomomaaDoor.M
end
section
/- Of any name and number the values of the name, the name of the number, and all names are what the document says. -/
namespace Go.Proofs.YtdbadfcekomomaaDoor.glyphIs
open Go Go.ChangeShapes Go.WideShapes Go.ChangeAt Go.RowKit
open Go.ChangeMaps (open_string shut_string)
set_option linter.unusedVariables false
theorem own : ownKnob Tryd.prog.godebug = none := by kernel_rfl
set_option maxRecDepth 100000 in
theorem lifted (os : Os) (started : os.Started) (H : Type) (enc : TypeId × Value → H) :
  ReturnsInHanded {} Tryd.checked os 3 .any (fun w args => (Rows.glyphIsSpec.pre enc Tryd.prog Tryd.f3 Rows.glyphIsRow.domain false w args ∧ laidMetH Tryd.prog Rows.glyphIsRow.laid w) ∧ sizedMet enc Tryd.prog Tryd.f3 (OpenSpec.ofChange Rows.glyphIsSpec) false w args)
   (Rows.glyphIsSpec.post enc Tryd.prog Tryd.f3 false true false false) := by
 refine M.returns_both (C := Tryd.checked) (X := fun w _ => laidMetH Tryd.prog Rows.glyphIsRow.laid w) (fun _ _ _ hh h => h.of_heap hh) own started (by kernel_rfl) Tryd.func3
  (ChangeSpec.witness_shaped (enc := enc) (C := Tryd.checked) (os := os) (X := fun w _ => laidMetH Tryd.prog Rows.glyphIsRow.laid w) false (World.laidAll Tryd.prog os Rows.glyphIsRow.laid) #[.string ByteArray.empty, .int .i64 0] 8 (World.laidAll_os _ _ _)
   (World.shaped_of_ZipB (by kernel_rfl) (by kernel_rfl)) (by kernel_rfl) (by kernel_rfl) (by kernel_rfl)
   (by rw [MakeChecks.laidMetH_plain _ _ _ (by kernel_rfl)]; exact laidMet_laidAll _ (by kernel_rfl) (by kernel_rfl))) ?_
 intro W base args ds gs before hval0 hW hcnd hsz0 hL hshape
 have hsz : (DataW.weightsEach Tryd.prog (Tryd.f3.params.toList ++ Rows.glyphIsSpec.plain.varTypes Tryd.prog) (ds ++ gs)).all (· ≤ reachBytes) = true := hsz0
 have hval : ∀ (j : Nat) t v, Tryd.f3.params[j]? = some t → args[j]? = some v → Value.okWide Tryd.prog W .any base t v := hval0
 have hLp := hL
 rw [MakeChecks.laidMetH_plain _ _ _ (by kernel_rfl)] at hLp
 have hG : M.GW W := M.GW.of_mets (hLp.tail.tail.tail.tail) (hLp.tail.tail.tail.tail.tail) (hLp.tail.tail.tail.tail.tail.tail.tail) (hLp.tail.tail) hshape
 have hW' := hW
 obtain ⟨p, q, hA0, hV, rfl, hfz, hnd⟩ := hW
 have hA : DataW.TrodAll enc Tryd.prog W 0 (fun _ => true) true Tryd.f3.params.toList args.toList ds p := hA0
 rw [Tryd.params3] at hA hval hsz
 obtain ⟨v0, vs0, d0, ds0, p0, q0, hargs, rfl, rfl, h0, r0⟩ := trodAll_cons hA
 obtain ⟨v1, vs1, d1, ds1, p1, q1, rfl, rfl, rfl, h1, r1⟩ := trodAll_cons r0
 obtain ⟨rfl, rfl, rfl⟩ := trodAll_nil r1
 obtain rfl : args = #[v0, v1] := by cases args; simp_all
 obtain ⟨rfl, rfl⟩ := trodVars_none hV
 obtain ⟨a0, rfl, rfl, rfl, y0⟩ := open_string Tryd.underlying9 (hval 0 9 v0 rfl rfl) h0
 have w0 : a0.size ≤ 140737488351232 := by
  have z := sized_string hsz (j := 0) (t := 9) rfl rfl
  rw [Array.length_toList] at z
  exact z
 obtain ⟨a1, rfl, rfl, rfl, w1⟩ := open_int Tryd.underlying3 (hval 1 3 v1 rfl rfl) h1
 clear hA0 hval0 hsz0 hsz
 refine (M.hornbooklaw14_GlyphIs.walk M.GlyphIs a0 a1 W w0 w1 hG).mono fun e W' ⟨he, bel⟩ => ?_
 subst he
 exact ⟨_, rfl, _, _, _, [], _, [], hW', trodAll_mk1 (shut_bool Tryd.underlying4 _), (trodAll_cons_mk (shut_string Tryd.underlying9 y0) (trodAll_cons_mk (shut_int Tryd.underlying3 w1) trodAll_mk0)), rfl, bel.frame _, fun h => by cases h⟩
theorem over : Rows.glyphIsRow.holds Tryd.pinned (OpenSpec.ofChange Rows.glyphIsSpec) :=
 OpenClaim.holds_of_wide 3 Tryd.f3 rfl rfl rfl rfl rfl rfl rfl ⟨rfl, rfl, rfl, rfl, rfl⟩ rfl rfl rfl rfl rfl (by kernel_rfl) Tryd.func3 (by kernel_rfl)
  (of_decide_eq_true (by kernel_rfl)) (by unfold Func.isWrapper; first | (rw [if_pos (by decide +kernel)]; kernel_rfl) | (rw [if_neg (by decide +kernel)]; exact ⟨rfl, rfl⟩))
  (fun os started H enc _ => lifted os started H enc)
theorem proved : Rows.GlyphIsSaid := over
theorem card : Rows.GlyphIsCardSaid :=
 Claim7.holds_tied_plain_at .later [] [.data, .data, .data, .data, .sentinel, .sentinel, .listed, .data, .pinned] true (true, "c5423f193754e5c1b4786623e676175ec33b4a5b946deba5d2643119b74fcdaa") true
  proved (fun _ h => by cases h) (by kernel_rfl) (fun _ h => by cases h) glyphIs_row_tie rfl ⟨rfl, rfl⟩ (by kernel_rfl) rfl
  (fun f fn hf hfn => by
   obtain rfl : f = 3 := Option.some.inj ((show Tryd.prog.funcNamed "hornbook/hornbooklaw14.GlyphIs" = some 3 by kernel_rfl).symm.trans hf) |>.symm
   obtain rfl : fn = Tryd.f3 := (Option.some.inj (Tryd.func3.symm.trans hfn)).symm
   exact ⟨by kernel_rfl, fun j t ht => by
    rw [Tryd.params3] at ht
    have hm : t ∈ [9, 3] := by simpa using Array.mem_of_getElem? ht
    have hall : ([9, 3].all fun u => !Tryd.prog.wantsStandIn u) = true := by kernel_rfl
    exact (show Tryd.prog.wantsStandIn t = false by simpa using List.all_eq_true.1 hall t hm)⟩)
  (by kernel_rfl)
end Go.Proofs.YtdbadfcekomomaaDoor.glyphIs
namespace Go.Proofs.YtdbadfcekomomaaDoor
/-- The statement, under a short name, for the claim. -/
theorem glyphIs_holds : Rows.GlyphIsCardSaid := glyphIs.card
#print axioms glyphIs_holds
end Go.Proofs.YtdbadfcekomomaaDoor
end
